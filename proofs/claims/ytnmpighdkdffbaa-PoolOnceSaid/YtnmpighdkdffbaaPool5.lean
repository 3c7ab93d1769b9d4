/- Package pool: Get, Handles, Used, New, Same. -/
import Derived.Test.YtnmpighdkdffbaaPool4
namespace Go.Proofs.Ytnmpighdkdffbaa
open Go.RowKit Go.Sort
set_option linter.unusedSimpArgs false
set_option linter.unusedVariables false

/-! Get. -/
theorem pool_handle_some (A B : Option Addr) (c d : Nat) (l : List Cl) (m : Nat) (k : Nat) (w : World) (hl : l.length ≤ 1000) (hk : k < l.length) (ha : Rd w w.heap.size A (cls l)) :
    Calls Try.prog 31 #[stV A l.length c B m d, .int .i64 k] w fun e w' => (∃ r, e = .returned (.int .i64 r)) ∧ Below w.heap.size w w' := by
  obtain ⟨ad, rfl, hadb, _⟩ := ha.cl hk
  have hb1 : Below w.heap.size w (w.alloc (.cells #[.slice (some ad) l.length c, .slice B m d] 30)) := by (repeat (first | with_reducible exact Below.refl _ _ | with_reducible assumption | with_reducible refine Below.drew ?_ | with_reducible refine Below.drewN ?_ _ | with_reducible refine Below.alloc1 ?_ _ | with_reducible refine Below.setCell1 ?_ (by first | omega | (simp; done) | (simp; omega)) _ | with_reducible refine Below.step ?_ (by with_reducible assumption)))
  obtain ⟨ad', e, _, c1, c2, c3⟩ := (ha.below hb1).cl hk
  injection e with e
  subst e
  generalize l[k] = x at *
  generalize x.gen = g at *
  go_enter Try.func31, Try.ntmps31
  go_wp2
  go_ret
  exact ⟨⟨_, rfl⟩, by (repeat (first | with_reducible exact Below.refl _ _ | with_reducible assumption | with_reducible refine Below.drew ?_ | with_reducible refine Below.drewN ?_ _ | with_reducible refine Below.alloc1 ?_ _ | with_reducible refine Below.setCell1 ?_ (by first | omega | (simp; done) | (simp; omega)) _ | with_reducible refine Below.step ?_ (by with_reducible assumption)))⟩
structure IsPair (e : Ending) : Prop where
  is : ∃ r b, e = .returned (.tuple #[.int .i64 r, .bool b])
theorem pool_find_some (A B : Option Addr) (c d : Nat) (l : List Cl) (m : Nat) (h : Int) (w : World) (hl : l.length ≤ 1000) (hh : -9223372036854775808 ≤ h ∧ h ≤ 9223372036854775807) (ha : Rd w w.heap.size A (cls l)) :
    Calls Try.prog 38 #[stV A l.length c B m d, .int .i64 h] w fun e w' => IsPair e ∧ Below w.heap.size w w' := by
  by_cases hn : h < 0 ∨ (l.length : Int) ≤ h % 64
  · go_enter Try.func38, Try.ntmps38
    by_cases h0 : h < 0
    · go_wp2
      go_ret2
      exact ⟨⟨⟨_, _, rfl⟩⟩, by (repeat (first | with_reducible exact Below.refl _ _ | with_reducible assumption | with_reducible refine Below.drew ?_ | with_reducible refine Below.drewN ?_ _ | with_reducible refine Below.alloc1 ?_ _ | with_reducible refine Below.setCell1 ?_ (by first | omega | (simp; done) | (simp; omega)) _ | with_reducible refine Below.step ?_ (by with_reducible assumption)))⟩
    · have h0' : 0 ≤ h := by omega
      have h1 : (l.length : Int) ≤ h % 64 := by omega
      clear hn
      go_wp2
      go_ret2
      exact ⟨⟨⟨_, _, rfl⟩⟩, by (repeat (first | with_reducible exact Below.refl _ _ | with_reducible assumption | with_reducible refine Below.drew ?_ | with_reducible refine Below.drewN ?_ _ | with_reducible refine Below.alloc1 ?_ _ | with_reducible refine Below.setCell1 ?_ (by first | omega | (simp; done) | (simp; omega)) _ | with_reducible refine Below.step ?_ (by with_reducible assumption)))⟩
  · have h0 : 0 ≤ h ∧ h % 64 < l.length := by omega
    obtain ⟨q, hq⟩ : ∃ q : Nat, h % 64 = q := ⟨(h % 64).toNat, by omega⟩
    have hql : q < l.length := by omega
    obtain ⟨ad, rfl, hadb, _⟩ := ha.cl hql
    have hH := fun (W : World) (h : Below w.heap.size w W) => pool_handle_some (some ad) B c d l m q W hl hql ((ha.below h).more h.size)
    have hb1 : Below w.heap.size w (w.alloc (.cells #[.slice (some ad) l.length c, .slice B m d] 30)) := by (repeat (first | with_reducible exact Below.refl _ _ | with_reducible assumption | with_reducible refine Below.drew ?_ | with_reducible refine Below.drewN ?_ _ | with_reducible refine Below.alloc1 ?_ _ | with_reducible refine Below.setCell1 ?_ (by first | omega | (simp; done) | (simp; omega)) _ | with_reducible refine Below.step ?_ (by with_reducible assumption)))
    obtain ⟨ad', e, _, c1, c2, c3⟩ := (ha.below hb1).cl hql
    injection e with e
    subst e
    generalize l[q] = x at *
    have h1 : h.tmod 64 = q := by rw [Int.tmod_eq_emod_of_nonneg h0.1, hq]
    have d1 : decide (h < 0) = false := by simp; omega
    have d2 : decide (l.length ≤ q) = false := by simp; omega
    clear hn
    obtain ⟨g, lv, v⟩ := x
    simp only at *
    cases lv with
    | false =>
      go_enter Try.func38, Try.ntmps38
      go_wp2
      go_ret2
      exact ⟨⟨⟨_, _, rfl⟩⟩, by (repeat (first | with_reducible exact Below.refl _ _ | with_reducible assumption | with_reducible refine Below.drew ?_ | with_reducible refine Below.drewN ?_ _ | with_reducible refine Below.alloc1 ?_ _ | with_reducible refine Below.setCell1 ?_ (by first | omega | (simp; done) | (simp; omega)) _ | with_reducible refine Below.step ?_ (by with_reducible assumption)))⟩
    | true =>
      go_enter Try.func38, Try.ntmps38
      go_wp2_with fail
      refine (hH _ hb1).mono ?_; rintro e x0 ⟨⟨r, rfl⟩, hx0⟩
      go_wp2
      go_ret2
      exact ⟨⟨⟨_, _, rfl⟩⟩, by (repeat (first | with_reducible exact Below.refl _ _ | with_reducible assumption | with_reducible refine Below.drew ?_ | with_reducible refine Below.drewN ?_ _ | with_reducible refine Below.alloc1 ?_ _ | with_reducible refine Below.setCell1 ?_ (by first | omega | (simp; done) | (simp; omega)) _ | with_reducible refine Below.step ?_ (by with_reducible assumption)))⟩
def pGet (l : List Cl) (f : List Int) (h : Int) : Int × Bool :=
  if pCheck l f ≠ 0 ∨ (pFind l h).2 = false then (0, false) else ((l.getD (pFind l h).1.toNat default).val, true)
set_option maxHeartbeats 4000000 in
theorem pool_Get_any (V : Value) (l : List Cl) (f : List Int) (h : Int) (w : World) (hl : l.length ≤ 1000) (hf : f.length ≤ 1000) (hh : -9223372036854775808 ≤ h ∧ h ≤ 9223372036854775807) (hV : StAt w V l f) :
    Calls Try.prog 18 #[V, .int .i64 h] w fun e w' => e = .returned (.tuple #[.int .i64 (pGet l f h).1, .bool (pGet l f h).2]) ∧ Below w.heap.size w w' := by
  obtain ⟨A, c, B, d, rfl, hd, ha, hb⟩ := hV
  have hC := fun (W : World) (h' : Below w.heap.size w W) => pool_Check_any A B c d l f W hl hf hd ((ha.below h').more h'.size) ((hb.below h').more h'.size)
  by_cases he : pCheck l f = 0
  · obtain ⟨⟨hl0, hl64⟩, hgen, -, -⟩ := check_ok he
    have hF := fun (W : World) (h' : Below w.heap.size w W) => pool_find_any A B c d l f.length h W hl hh hgen ((ha.below h').more h'.size)
    rw [he] at hC
    by_cases hfd : (pFind l h).2 = false
    · have hr : pGet l f h = (0, false) := by unfold pGet; rw [if_pos (.inr hfd)]
      generalize hFD : pFind l h = fd at *
      obtain ⟨fd1, fd2⟩ := fd
      simp only at hfd
      subst hfd
      rw [hr]
      clear hFD hr hgen
      go_enter Try.func18, Try.ntmps18
      go_wp2_with fail
      generalize hV : World.alloc w _ = w1
      have hb1 : Below w.heap.size w w1 := by subst hV; (repeat (first | with_reducible exact Below.refl _ _ | with_reducible assumption | with_reducible refine Below.drew ?_ | with_reducible refine Below.drewN ?_ _ | with_reducible refine Below.alloc1 ?_ _ | with_reducible refine Below.setCell1 ?_ (by first | omega | (simp; done) | (simp; omega)) _ | with_reducible refine Below.step ?_ (by with_reducible assumption)))
      have k0 : Bk w1 w.heap.size 30 (stC A l.length c B f.length d) := by subst hV; (repeat (first | with_reducible exact Bk.new' _ _ _ _ (by simp; done) | with_reducible assumption | with_reducible refine Bk.alloc ?_ _ | with_reducible refine Bk.drew ?_ | with_reducible refine Bk.drewN ?_ _ | with_reducible refine Bk.step ?_ (by with_reducible assumption) | with_reducible refine Bk.far ?_ (by first | omega | (simp; done) | (simp; omega)) _))
      clear hV
      refine (hF _ hb1).mono ?_; rintro e x4 ⟨rfl, hx4⟩
      replace k0 := k0.step hx4
      have k0_0 := k0.cell 0; have k0_f0 := k0.frozen 0; have k0_1 := k0.cell 1; have k0_f1 := k0.frozen 1; simp only [List.set_cons_zero, List.set_cons_succ, List.getElem?_cons_zero, List.getElem?_cons_succ] at k0_0 k0_1; have lt_k0 := k0.lt
      go_wp2
      go_ret2
      exact ⟨rfl, by (repeat (first | with_reducible exact Below.refl _ _ | with_reducible assumption | with_reducible refine Below.drew ?_ | with_reducible refine Below.drewN ?_ _ | with_reducible refine Below.alloc1 ?_ _ | with_reducible refine Below.setCell1 ?_ (by first | omega | (simp; done) | (simp; omega)) _ | with_reducible refine Below.step ?_ (by with_reducible assumption)))⟩
    · have hfd' : (pFind l h).2 = true := by simpa using hfd
      obtain ⟨q, hq, e1, hlv, -, -, -⟩ := find_ok hfd'
      have hr : pGet l f h = (l[q].val, true) := by unfold pGet; rw [if_neg (by simp [he, hfd']), e1, Int.toNat_natCast, getD_at _ _ hq]
      generalize hFD : pFind l h = fd at *
      obtain ⟨fd1, fd2⟩ := fd
      simp only at hfd' e1
      subst hfd' e1
      rw [hr]
      clear hFD hr hgen hfd
      obtain ⟨ad, rfl, hadb, _⟩ := ha.cl hq
      have hcl := fun (W : World) (h : Below w.heap.size w W) => (ha.below h).cl hq
      go_enter Try.func18, Try.ntmps18
      go_wp2_with fail
      generalize hV : World.alloc w _ = w1
      have hb1 : Below w.heap.size w w1 := by subst hV; (repeat (first | with_reducible exact Below.refl _ _ | with_reducible assumption | with_reducible refine Below.drew ?_ | with_reducible refine Below.drewN ?_ _ | with_reducible refine Below.alloc1 ?_ _ | with_reducible refine Below.setCell1 ?_ (by first | omega | (simp; done) | (simp; omega)) _ | with_reducible refine Below.step ?_ (by with_reducible assumption)))
      have k0 : Bk w1 w.heap.size 30 (stC (some ad) l.length c B f.length d) := by subst hV; (repeat (first | with_reducible exact Bk.new' _ _ _ _ (by simp; done) | with_reducible assumption | with_reducible refine Bk.alloc ?_ _ | with_reducible refine Bk.drew ?_ | with_reducible refine Bk.drewN ?_ _ | with_reducible refine Bk.step ?_ (by with_reducible assumption) | with_reducible refine Bk.far ?_ (by first | omega | (simp; done) | (simp; omega)) _))
      clear hV
      refine (hF _ hb1).mono ?_; rintro e x4 ⟨rfl, hx4⟩
      replace k0 := k0.step hx4
      replace hb1 : Below w.heap.size w x4 := by (repeat (first | with_reducible exact Below.refl _ _ | with_reducible assumption | with_reducible refine Below.drew ?_ | with_reducible refine Below.drewN ?_ _ | with_reducible refine Below.alloc1 ?_ _ | with_reducible refine Below.setCell1 ?_ (by first | omega | (simp; done) | (simp; omega)) _ | with_reducible refine Below.step ?_ (by with_reducible assumption)))
      clear hx4
      have k0_0 := k0.cell 0; have k0_f0 := k0.frozen 0; have k0_1 := k0.cell 1; have k0_f1 := k0.frozen 1; simp only [List.set_cons_zero, List.set_cons_succ, List.getElem?_cons_zero, List.getElem?_cons_succ] at k0_0 k0_1; have lt_k0 := k0.lt
      go_wp2_with fail
      refine (hC _ hb1).mono ?_; rintro e x5 ⟨rfl, hx5⟩
      replace k0 := k0.step hx5; (try clear k0_0 k0_f0 k0_1 k0_f1); have k0_0 := k0.cell 0; have k0_f0 := k0.frozen 0; have k0_1 := k0.cell 1; have k0_f1 := k0.frozen 1; simp only [List.set_cons_zero, List.set_cons_succ, List.getElem?_cons_zero, List.getElem?_cons_succ] at k0_0 k0_1; (try clear lt_k0); have lt_k0 := k0.lt
      replace hb1 : Below w.heap.size w x5 := by (repeat (first | with_reducible exact Below.refl _ _ | with_reducible assumption | with_reducible refine Below.drew ?_ | with_reducible refine Below.drewN ?_ _ | with_reducible refine Below.alloc1 ?_ _ | with_reducible refine Below.setCell1 ?_ (by first | omega | (simp; done) | (simp; omega)) _ | with_reducible refine Below.step ?_ (by with_reducible assumption)))
      obtain ⟨ad', e, _, c1, c2, c3⟩ := hcl _ hb1
      injection e with e
      subst e
      have i1 : (q : Int) < (l.length : Int) := by omega
      clear hcl hF hC hx5
      generalize hxq : l[q] = x at *
      go_wp2
      go_ret2
      exact ⟨by rw [hxq]; rfl, by (repeat (first | with_reducible exact Below.refl _ _ | with_reducible assumption | with_reducible refine Below.drew ?_ | with_reducible refine Below.drewN ?_ _ | with_reducible refine Below.alloc1 ?_ _ | with_reducible refine Below.setCell1 ?_ (by first | omega | (simp; done) | (simp; omega)) _ | with_reducible refine Below.step ?_ (by with_reducible assumption)))⟩
  · have hr : pGet l f h = (0, false) := by unfold pGet; rw [if_pos (.inl he)]
    have hF := fun (W : World) (h' : Below w.heap.size w W) => pool_find_some A B c d l f.length h W hl hh ((ha.below h').more h'.size)
    have hne : (pCheck l f != 0) = true := by simpa using he
    rw [hr]
    generalize pCheck l f = ec at *
    clear he hr
    go_enter Try.func18, Try.ntmps18
    go_wp2_with fail
    generalize hV : World.alloc w _ = w1
    have hb1 : Below w.heap.size w w1 := by subst hV; (repeat (first | with_reducible exact Below.refl _ _ | with_reducible assumption | with_reducible refine Below.drew ?_ | with_reducible refine Below.drewN ?_ _ | with_reducible refine Below.alloc1 ?_ _ | with_reducible refine Below.setCell1 ?_ (by first | omega | (simp; done) | (simp; omega)) _ | with_reducible refine Below.step ?_ (by with_reducible assumption)))
    have k0 : Bk w1 w.heap.size 30 (stC A l.length c B f.length d) := by subst hV; (repeat (first | with_reducible exact Bk.new' _ _ _ _ (by simp; done) | with_reducible assumption | with_reducible refine Bk.alloc ?_ _ | with_reducible refine Bk.drew ?_ | with_reducible refine Bk.drewN ?_ _ | with_reducible refine Bk.step ?_ (by with_reducible assumption) | with_reducible refine Bk.far ?_ (by first | omega | (simp; done) | (simp; omega)) _))
    clear hV
    refine (hF _ hb1).mono ?_; rintro e x4 ⟨⟨r, b, rfl⟩, hx4⟩
    replace k0 := k0.step hx4
    replace hb1 : Below w.heap.size w x4 := by (repeat (first | with_reducible exact Below.refl _ _ | with_reducible assumption | with_reducible refine Below.drew ?_ | with_reducible refine Below.drewN ?_ _ | with_reducible refine Below.alloc1 ?_ _ | with_reducible refine Below.setCell1 ?_ (by first | omega | (simp; done) | (simp; omega)) _ | with_reducible refine Below.step ?_ (by with_reducible assumption)))
    clear hx4
    have k0_0 := k0.cell 0; have k0_f0 := k0.frozen 0; have k0_1 := k0.cell 1; have k0_f1 := k0.frozen 1; simp only [List.set_cons_zero, List.set_cons_succ, List.getElem?_cons_zero, List.getElem?_cons_succ] at k0_0 k0_1; have lt_k0 := k0.lt
    cases b with
    | false =>
      go_wp2
      go_ret2
      exact ⟨rfl, by (repeat (first | with_reducible exact Below.refl _ _ | with_reducible assumption | with_reducible refine Below.drew ?_ | with_reducible refine Below.drewN ?_ _ | with_reducible refine Below.alloc1 ?_ _ | with_reducible refine Below.setCell1 ?_ (by first | omega | (simp; done) | (simp; omega)) _ | with_reducible refine Below.step ?_ (by with_reducible assumption)))⟩
    | true =>
      go_wp2_with fail
      refine (hC _ hb1).mono ?_; rintro e x5 ⟨rfl, hx5⟩
      go_wp2
      go_ret2
      exact ⟨rfl, by (repeat (first | with_reducible exact Below.refl _ _ | with_reducible assumption | with_reducible refine Below.drew ?_ | with_reducible refine Below.drewN ?_ _ | with_reducible refine Below.alloc1 ?_ _ | with_reducible refine Below.setCell1 ?_ (by first | omega | (simp; done) | (simp; omega)) _ | with_reducible refine Below.step ?_ (by with_reducible assumption)))⟩
end Go.Proofs.Ytnmpighdkdffbaa
