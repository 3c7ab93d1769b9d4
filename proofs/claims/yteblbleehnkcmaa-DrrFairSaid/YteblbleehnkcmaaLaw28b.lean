/- The walk of DrrServes. -/
import Derived.Test.YteblbleehnkcmaaLaw28a
import Derived.Test.YteblbleehnkcmaaRef28m
namespace Go.Proofs.Yteblbleehnkcmaa
open Go.RowKit Go.Sort
set_option linter.unusedSimpArgs false
set_option linter.unusedVariables false

theorem dLoop_len {q : Int} (n : Nat) (s : RS) : (dLoop q n s).fl.length = s.fl.length ∧ (dLoop q n s).went.length = s.went.length := by
  induction n generalizing s with
  | zero => exact ⟨rfl, rfl⟩
  | succ n ih =>
    rw [dLoop]
    have h1 : (dTurn q s).1.fl.length = s.fl.length := (dTurn_at q s).2.2
    have h2 : (dTurn q s).1.went.length = s.went.length := by unfold dTurn; dsimp only; split <;> simp
    split
    · exact ⟨rfl, rfl⟩
    · split
      · exact ⟨h1, h2⟩
      · have := ih (dNext q s)
        exact ⟨this.1.trans h1, this.2.trans h2⟩
theorem dServe_len (l : List Fl) (at_ : Int) (mid : Bool) (q t : Int) (ld : List Ld) : (dServe l at_ mid q t ld).fl.length = l.length ∧ (dServe l at_ mid q t ld).went.length ≤ l.length := by
  unfold dServe
  split
  · exact ⟨rfl, by simp⟩
  · split
    · exact ⟨rfl, by simp⟩
    · have := dLoop_len (q := q) (dMu (dBegin l at_.toNat mid t ld) + 1) (dBegin l at_.toNat mid t ld)
      exact ⟨this.1, Nat.le_of_eq (this.2.trans (by simp [dBegin]))⟩
theorem SameInts_self (A B : Option Addr) (c d : Nat) (l : List Int) (w : World) (hl : l.length ≤ maxLen) (ha : Rd w w.heap.size A (ints l)) (hb : Rd w w.heap.size B (ints l)) :
    Calls Try.prog 15 #[.slice A l.length c, .slice B l.length d] w fun e w' => e = .returned (.bool true) ∧ ∃ n, w.drewN n = w' :=
  (SameInts_any A B c d l l w hl ha hb).lit (by simp)
set_option maxRecDepth 100000 in
set_option maxHeartbeats 16000000 in
theorem DrrServes_walk (A L : Option Addr) (c d : Nat) (l : List Fl) (at_ : Int) (mid : Bool) (n0 n1 : Int) (ld : List Ld) (w : World) (hl : l.length ≤ maxLen) (hld : ld.length ≤ maxLen) (hxl : ∀ x ∈ ld, x.xs.length ≤ maxLen) (ha : Rd w w.heap.size A (flR l)) (hL : Lds w w.heap.size L ld) :
    Calls Try.prog 3 #[rsV A l.length c at_ mid, prV n0 n1, .slice L ld.length d] w fun e w' => e = .returned (.bool true) ∧ Below w.heap.size w w' := by
  by_cases h1 : 20 < l.length
  · have g1 : (20 : Int) < (l.length : Int) := by omega
    clear hxl
    go_enter Try.func3, Try.ntmps3
    go_wp2_with fail
    refine (awake28_any _).mono ?_; rintro e y1 ⟨rfl, hx2⟩
    go_wp2
    go_ret
    exact ⟨rfl, by (repeat (first | with_reducible exact Below.refl _ _ | with_reducible assumption | with_reducible refine Below.drew ?_ | with_reducible refine Below.drewN ?_ _ | with_reducible refine Below.alloc1 ?_ _ | with_reducible refine Below.setCell1 ?_ (by first | omega | (simp; done) | (simp; omega)) _ | with_reducible refine Below.step ?_ (by with_reducible assumption)))⟩
  have g1 : (l.length : Int) ≤ 20 := by omega
  have hLi := fun W h => ref_Light_any L d ld W hld hxl h
  cases hlg : lLight ld with
  | false =>
    rw [hlg] at hLi
    clear h1 hxl
    go_enter Try.func3, Try.ntmps3
    go_wp2_with fail
    generalize hV : World.alloc (World.alloc w _) _ = w1
    have hb0 : Below w.heap.size w w1 := by subst hV; (repeat (first | with_reducible exact Below.refl _ _ | with_reducible assumption | with_reducible refine Below.drew ?_ | with_reducible refine Below.drewN ?_ _ | with_reducible refine Below.alloc1 ?_ _ | with_reducible refine Below.setCell1 ?_ (by first | omega | (simp; done) | (simp; omega)) _ | with_reducible refine Below.step ?_ (by with_reducible assumption)))
    clear hV
    refine (hLi _ ((hL.below hb0).more hb0.size)).mono ?_; rintro e y0 ⟨rfl, hy⟩
    go_wp2_with fail
    refine (awake28_any _).mono ?_; rintro e y1 ⟨rfl, hx2⟩
    go_wp2
    go_ret
    exact ⟨rfl, by (repeat (first | with_reducible exact Below.refl _ _ | with_reducible assumption | with_reducible refine Below.drew ?_ | with_reducible refine Below.drewN ?_ _ | with_reducible refine Below.alloc1 ?_ _ | with_reducible refine Below.setCell1 ?_ (by first | omega | (simp; done) | (simp; omega)) _ | with_reducible refine Below.step ?_ (by with_reducible assumption)))⟩
  | true =>
    rw [hlg] at hLi
    obtain ⟨q1, q2⟩ := lLight_ok hlg
    have hl1 : l.length ≤ 1000 := by omega
    have hm1 : ld.length ≤ 1000 := by omega
    have HX := hide (show ∀ x ∈ ld, x.xs.length ≤ 1000 from fun x hx => by have := q2 x hx; omega)
    have HSL := hide (dServe_len l at_ mid n0 n1 ld)
    clear h1 hxl hlg q2
    go_enter Try.func3, Try.ntmps3
    go_wp2_with fail
    generalize hV : World.alloc (World.alloc w _) _ = w1
    have hb0 : Below w.heap.size w w1 := by subst hV; (repeat (first | with_reducible exact Below.refl _ _ | with_reducible assumption | with_reducible refine Below.drew ?_ | with_reducible refine Below.drewN ?_ _ | with_reducible refine Below.alloc1 ?_ _ | with_reducible refine Below.setCell1 ?_ (by first | omega | (simp; done) | (simp; omega)) _ | with_reducible refine Below.step ?_ (by with_reducible assumption)))
    have k0 : Bk w1 w.heap.size 24 (dsC A l.length c at_ mid) := by subst hV; exact (Bk.new' w 24 (dsC A l.length c at_ mid) _ rfl).alloc _
    have kn : Bk w1 (w.heap.size + 1) 25 [.int .i64 n0, .int .i64 n1] := by subst hV; exact Bk.new' (World.alloc w _) 25 [.int .i64 n0, .int .i64 n1] _ (by simp)
    clear hV
    have rA := (ha.below hb0).more hb0.size
    have rL := (hL.below hb0).more hb0.size
    have k0_0 := k0.cell 0; have k0_f0 := k0.frozen 0; have k0_1 := k0.cell 1; have k0_f1 := k0.frozen 1; have k0_2 := k0.cell 2; have k0_f2 := k0.frozen 2; simp only [List.set_cons_zero, List.set_cons_succ, List.getElem?_cons_zero, List.getElem?_cons_succ] at k0_0 k0_1 k0_2; have lt_k0 := k0.lt; have kn_0 := kn.cell 0; have kn_f0 := kn.frozen 0; have kn_1 := kn.cell 1; have kn_f1 := kn.frozen 1; simp only [List.set_cons_zero, List.set_cons_succ, List.getElem?_cons_zero, List.getElem?_cons_succ] at kn_0 kn_1; have lt_kn := kn.lt
    refine (hLi _ rL).mono ?_; rintro e y0 ⟨rfl, hx1⟩
    clear hLi
    replace k0 := k0.step hx1; (try clear k0_0 k0_f0 k0_1 k0_f1 k0_2 k0_f2); have k0_0 := k0.cell 0; have k0_f0 := k0.frozen 0; have k0_1 := k0.cell 1; have k0_f1 := k0.frozen 1; have k0_2 := k0.cell 2; have k0_f2 := k0.frozen 2; simp only [List.set_cons_zero, List.set_cons_succ, List.getElem?_cons_zero, List.getElem?_cons_succ] at k0_0 k0_1 k0_2; (try clear lt_k0); have lt_k0 := k0.lt; replace kn := kn.step hx1; (try clear kn_0 kn_f0 kn_1 kn_f1); have kn_0 := kn.cell 0; have kn_f0 := kn.frozen 0; have kn_1 := kn.cell 1; have kn_f1 := kn.frozen 1; simp only [List.set_cons_zero, List.set_cons_succ, List.getElem?_cons_zero, List.getElem?_cons_succ] at kn_0 kn_1; (try clear lt_kn); have lt_kn := kn.lt
    replace hb0 : Below w.heap.size w y0 := hb0.step hx1
    replace rA := rA.step hx1; replace rL := rL.step hx1
    clear hx1
    go_wp2_with fail
    refine (law_own_any A c l at_ mid _ hl1 rA).mono ?_; rintro e y1 ⟨A7, c7, rfl, _, r7, hx1⟩
    replace k0 := k0.step hx1; (try clear k0_0 k0_f0 k0_1 k0_f1 k0_2 k0_f2); have k0_0 := k0.cell 0; have k0_f0 := k0.frozen 0; have k0_1 := k0.cell 1; have k0_f1 := k0.frozen 1; have k0_2 := k0.cell 2; have k0_f2 := k0.frozen 2; simp only [List.set_cons_zero, List.set_cons_succ, List.getElem?_cons_zero, List.getElem?_cons_succ] at k0_0 k0_1 k0_2; (try clear lt_k0); have lt_k0 := k0.lt; replace kn := kn.step hx1; (try clear kn_0 kn_f0 kn_1 kn_f1); have kn_0 := kn.cell 0; have kn_f0 := kn.frozen 0; have kn_1 := kn.cell 1; have kn_f1 := kn.frozen 1; simp only [List.set_cons_zero, List.set_cons_succ, List.getElem?_cons_zero, List.getElem?_cons_succ] at kn_0 kn_1; (try clear lt_kn); have lt_kn := kn.lt
    replace hb0 : Below w.heap.size w y1 := hb0.step hx1
    replace rA := rA.step hx1; replace rL := rL.step hx1
    clear hx1
    go_wp2_with fail
    refine (law_loads_any L d ld _ hm1 rL).mono ?_; rintro e y2 ⟨M, dm, rfl, rM, hx1⟩
    replace k0 := k0.step hx1; (try clear k0_0 k0_f0 k0_1 k0_f1 k0_2 k0_f2); have k0_0 := k0.cell 0; have k0_f0 := k0.frozen 0; have k0_1 := k0.cell 1; have k0_f1 := k0.frozen 1; have k0_2 := k0.cell 2; have k0_f2 := k0.frozen 2; simp only [List.set_cons_zero, List.set_cons_succ, List.getElem?_cons_zero, List.getElem?_cons_succ] at k0_0 k0_1 k0_2; (try clear lt_k0); have lt_k0 := k0.lt; replace kn := kn.step hx1; (try clear kn_0 kn_f0 kn_1 kn_f1); have kn_0 := kn.cell 0; have kn_f0 := kn.frozen 0; have kn_1 := kn.cell 1; have kn_f1 := kn.frozen 1; simp only [List.set_cons_zero, List.set_cons_succ, List.getElem?_cons_zero, List.getElem?_cons_succ] at kn_0 kn_1; (try clear lt_kn); have lt_kn := kn.lt
    replace hb0 : Below w.heap.size w y2 := hb0.step hx1
    replace rA := rA.step hx1; replace rL := rL.step hx1; replace r7 := r7.step hx1
    clear hx1
    go_wp2_with fail
    generalize hV : World.alloc y2 _ = z2
    have hy : Below y2.heap.size y2 z2 := by subst hV; (repeat (first | with_reducible exact Below.refl _ _ | with_reducible assumption | with_reducible refine Below.drew ?_ | with_reducible refine Below.drewN ?_ _ | with_reducible refine Below.alloc1 ?_ _ | with_reducible refine Below.setCell1 ?_ (by first | omega | (simp; done) | (simp; omega)) _ | with_reducible refine Below.step ?_ (by with_reducible assumption)))
    have k7 : Bk z2 y2.heap.size 31 (dsC A7 l.length c7 at_ mid) := by subst hV; (repeat (first | with_reducible exact Bk.new' _ _ _ _ (by simp; done) | with_reducible assumption | with_reducible refine Bk.alloc ?_ _ | with_reducible refine Bk.drew ?_ | with_reducible refine Bk.drewN ?_ _ | with_reducible refine Bk.step ?_ (by with_reducible assumption) | with_reducible refine Bk.far ?_ (by first | omega | (simp; done) | (simp; omega)) _))
    clear hV
    replace k0 := k0.step hy; (try clear k0_0 k0_f0 k0_1 k0_f1 k0_2 k0_f2); have k0_0 := k0.cell 0; have k0_f0 := k0.frozen 0; have k0_1 := k0.cell 1; have k0_f1 := k0.frozen 1; have k0_2 := k0.cell 2; have k0_f2 := k0.frozen 2; simp only [List.set_cons_zero, List.set_cons_succ, List.getElem?_cons_zero, List.getElem?_cons_succ] at k0_0 k0_1 k0_2; (try clear lt_k0); have lt_k0 := k0.lt; replace kn := kn.step hy; (try clear kn_0 kn_f0 kn_1 kn_f1); have kn_0 := kn.cell 0; have kn_f0 := kn.frozen 0; have kn_1 := kn.cell 1; have kn_f1 := kn.frozen 1; simp only [List.set_cons_zero, List.set_cons_succ, List.getElem?_cons_zero, List.getElem?_cons_succ] at kn_0 kn_1; (try clear lt_kn); have lt_kn := kn.lt
    replace hb0 : Below w.heap.size w z2 := hb0.step hy
    replace rA := rA.step hy; replace rL := rL.step hy; replace r7 := r7.step hy; replace rM := rM.step hy
    have k7_0 := k7.cell 0; have k7_f0 := k7.frozen 0; have k7_1 := k7.cell 1; have k7_f1 := k7.frozen 1; have k7_2 := k7.cell 2; have k7_f2 := k7.frozen 2; simp only [List.set_cons_zero, List.set_cons_succ, List.getElem?_cons_zero, List.getElem?_cons_succ] at k7_0 k7_1 k7_2; have lt_k7 := k7.lt
    clear hy
    refine (drr_Serve_any A7 M c7 dm l at_ mid n0 n1 ld _ hl1 hm1 HX.out r7 rM).mono ?_; rintro e y3 ⟨_, Ba, ba, rfl, ⟨Aa, ca, rfl, raa, _⟩, rBa, hx1⟩
    replace k0 := k0.step hx1; (try clear k0_0 k0_f0 k0_1 k0_f1 k0_2 k0_f2); have k0_0 := k0.cell 0; have k0_f0 := k0.frozen 0; have k0_1 := k0.cell 1; have k0_f1 := k0.frozen 1; have k0_2 := k0.cell 2; have k0_f2 := k0.frozen 2; simp only [List.set_cons_zero, List.set_cons_succ, List.getElem?_cons_zero, List.getElem?_cons_succ] at k0_0 k0_1 k0_2; (try clear lt_k0); have lt_k0 := k0.lt; replace kn := kn.step hx1; (try clear kn_0 kn_f0 kn_1 kn_f1); have kn_0 := kn.cell 0; have kn_f0 := kn.frozen 0; have kn_1 := kn.cell 1; have kn_f1 := kn.frozen 1; simp only [List.set_cons_zero, List.set_cons_succ, List.getElem?_cons_zero, List.getElem?_cons_succ] at kn_0 kn_1; (try clear lt_kn); have lt_kn := kn.lt; replace k7 := k7.step hx1; (try clear k7_0 k7_f0 k7_1 k7_f1 k7_2 k7_f2); have k7_0 := k7.cell 0; have k7_f0 := k7.frozen 0; have k7_1 := k7.cell 1; have k7_f1 := k7.frozen 1; have k7_2 := k7.cell 2; have k7_f2 := k7.frozen 2; simp only [List.set_cons_zero, List.set_cons_succ, List.getElem?_cons_zero, List.getElem?_cons_succ] at k7_0 k7_1 k7_2; (try clear lt_k7); have lt_k7 := k7.lt
    replace hb0 : Below w.heap.size w y3 := hb0.step hx1
    replace rA := rA.step hx1; replace rL := rL.step hx1; replace r7 := r7.step hx1; replace rM := rM.step hx1
    clear hx1
    go_wp2_with fail
    generalize hV : World.alloc y3 _ = z3
    have hy : Below y3.heap.size y3 z3 := by subst hV; (repeat (first | with_reducible exact Below.refl _ _ | with_reducible assumption | with_reducible refine Below.drew ?_ | with_reducible refine Below.drewN ?_ _ | with_reducible refine Below.alloc1 ?_ _ | with_reducible refine Below.setCell1 ?_ (by first | omega | (simp; done) | (simp; omega)) _ | with_reducible refine Below.step ?_ (by with_reducible assumption)))
    have ka : Bk z3 y3.heap.size 31 (dsC Aa (dServe l at_ mid n0 n1 ld).fl.length ca (dServe l at_ mid n0 n1 ld).at_ (dServe l at_ mid n0 n1 ld).mid) := by subst hV; (repeat (first | with_reducible exact Bk.new' _ _ _ _ (by simp; done) | with_reducible assumption | with_reducible refine Bk.alloc ?_ _ | with_reducible refine Bk.drew ?_ | with_reducible refine Bk.drewN ?_ _ | with_reducible refine Bk.step ?_ (by with_reducible assumption) | with_reducible refine Bk.far ?_ (by first | omega | (simp; done) | (simp; omega)) _))
    clear hV
    replace k0 := k0.step hy; (try clear k0_0 k0_f0 k0_1 k0_f1 k0_2 k0_f2); have k0_0 := k0.cell 0; have k0_f0 := k0.frozen 0; have k0_1 := k0.cell 1; have k0_f1 := k0.frozen 1; have k0_2 := k0.cell 2; have k0_f2 := k0.frozen 2; simp only [List.set_cons_zero, List.set_cons_succ, List.getElem?_cons_zero, List.getElem?_cons_succ] at k0_0 k0_1 k0_2; (try clear lt_k0); have lt_k0 := k0.lt; replace kn := kn.step hy; (try clear kn_0 kn_f0 kn_1 kn_f1); have kn_0 := kn.cell 0; have kn_f0 := kn.frozen 0; have kn_1 := kn.cell 1; have kn_f1 := kn.frozen 1; simp only [List.set_cons_zero, List.set_cons_succ, List.getElem?_cons_zero, List.getElem?_cons_succ] at kn_0 kn_1; (try clear lt_kn); have lt_kn := kn.lt; replace k7 := k7.step hy; (try clear k7_0 k7_f0 k7_1 k7_f1 k7_2 k7_f2); have k7_0 := k7.cell 0; have k7_f0 := k7.frozen 0; have k7_1 := k7.cell 1; have k7_f1 := k7.frozen 1; have k7_2 := k7.cell 2; have k7_f2 := k7.frozen 2; simp only [List.set_cons_zero, List.set_cons_succ, List.getElem?_cons_zero, List.getElem?_cons_succ] at k7_0 k7_1 k7_2; (try clear lt_k7); have lt_k7 := k7.lt
    replace hb0 : Below w.heap.size w z3 := hb0.step hy
    replace rA := rA.step hy; replace rL := rL.step hy; replace r7 := r7.step hy; replace rM := rM.step hy; replace raa := raa.step hy; replace rBa := rBa.step hy
    have ka_0 := ka.cell 0; have ka_f0 := ka.frozen 0; have ka_1 := ka.cell 1; have ka_f1 := ka.frozen 1; have ka_2 := ka.cell 2; have ka_f2 := ka.frozen 2; simp only [List.set_cons_zero, List.set_cons_succ, List.getElem?_cons_zero, List.getElem?_cons_succ] at ka_0 ka_1 ka_2; have lt_ka := ka.lt
    clear hy
    refine (ref_Serve_any A L c d l at_ mid n0 n1 ld _ hl1 hm1 HX.out rA rL).mono ?_; rintro e y4 ⟨_, Bb, bb, rfl, ⟨Ab, cb, rfl, rab⟩, rBb, hx1⟩
    replace k0 := k0.step hx1; (try clear k0_0 k0_f0 k0_1 k0_f1 k0_2 k0_f2); have k0_0 := k0.cell 0; have k0_f0 := k0.frozen 0; have k0_1 := k0.cell 1; have k0_f1 := k0.frozen 1; have k0_2 := k0.cell 2; have k0_f2 := k0.frozen 2; simp only [List.set_cons_zero, List.set_cons_succ, List.getElem?_cons_zero, List.getElem?_cons_succ] at k0_0 k0_1 k0_2; (try clear lt_k0); have lt_k0 := k0.lt; replace kn := kn.step hx1; (try clear kn_0 kn_f0 kn_1 kn_f1); have kn_0 := kn.cell 0; have kn_f0 := kn.frozen 0; have kn_1 := kn.cell 1; have kn_f1 := kn.frozen 1; simp only [List.set_cons_zero, List.set_cons_succ, List.getElem?_cons_zero, List.getElem?_cons_succ] at kn_0 kn_1; (try clear lt_kn); have lt_kn := kn.lt; replace k7 := k7.step hx1; (try clear k7_0 k7_f0 k7_1 k7_f1 k7_2 k7_f2); have k7_0 := k7.cell 0; have k7_f0 := k7.frozen 0; have k7_1 := k7.cell 1; have k7_f1 := k7.frozen 1; have k7_2 := k7.cell 2; have k7_f2 := k7.frozen 2; simp only [List.set_cons_zero, List.set_cons_succ, List.getElem?_cons_zero, List.getElem?_cons_succ] at k7_0 k7_1 k7_2; (try clear lt_k7); have lt_k7 := k7.lt; replace ka := ka.step hx1; (try clear ka_0 ka_f0 ka_1 ka_f1 ka_2 ka_f2); have ka_0 := ka.cell 0; have ka_f0 := ka.frozen 0; have ka_1 := ka.cell 1; have ka_f1 := ka.frozen 1; have ka_2 := ka.cell 2; have ka_f2 := ka.frozen 2; simp only [List.set_cons_zero, List.set_cons_succ, List.getElem?_cons_zero, List.getElem?_cons_succ] at ka_0 ka_1 ka_2; (try clear lt_ka); have lt_ka := ka.lt
    replace hb0 : Below w.heap.size w y4 := hb0.step hx1
    replace rA := rA.step hx1; replace rL := rL.step hx1; replace r7 := r7.step hx1; replace rM := rM.step hx1; replace raa := raa.step hx1; replace rBa := rBa.step hx1
    clear hx1
    generalize dServe l at_ mid n0 n1 ld = R at *
    go_wp2_with fail
    generalize hV : World.alloc y4 _ = z4
    have hy : Below y4.heap.size y4 z4 := by subst hV; (repeat (first | with_reducible exact Below.refl _ _ | with_reducible assumption | with_reducible refine Below.drew ?_ | with_reducible refine Below.drewN ?_ _ | with_reducible refine Below.alloc1 ?_ _ | with_reducible refine Below.setCell1 ?_ (by first | omega | (simp; done) | (simp; omega)) _ | with_reducible refine Below.step ?_ (by with_reducible assumption)))
    have kb : Bk z4 y4.heap.size 24 (dsC Ab R.fl.length cb R.at_ R.mid) := by subst hV; (repeat (first | with_reducible exact Bk.new' _ _ _ _ (by simp; done) | with_reducible assumption | with_reducible refine Bk.alloc ?_ _ | with_reducible refine Bk.drew ?_ | with_reducible refine Bk.drewN ?_ _ | with_reducible refine Bk.step ?_ (by with_reducible assumption) | with_reducible refine Bk.far ?_ (by first | omega | (simp; done) | (simp; omega)) _))
    clear hV
    replace k0 := k0.step hy; (try clear k0_0 k0_f0 k0_1 k0_f1 k0_2 k0_f2); have k0_0 := k0.cell 0; have k0_f0 := k0.frozen 0; have k0_1 := k0.cell 1; have k0_f1 := k0.frozen 1; have k0_2 := k0.cell 2; have k0_f2 := k0.frozen 2; simp only [List.set_cons_zero, List.set_cons_succ, List.getElem?_cons_zero, List.getElem?_cons_succ] at k0_0 k0_1 k0_2; (try clear lt_k0); have lt_k0 := k0.lt; replace kn := kn.step hy; (try clear kn_0 kn_f0 kn_1 kn_f1); have kn_0 := kn.cell 0; have kn_f0 := kn.frozen 0; have kn_1 := kn.cell 1; have kn_f1 := kn.frozen 1; simp only [List.set_cons_zero, List.set_cons_succ, List.getElem?_cons_zero, List.getElem?_cons_succ] at kn_0 kn_1; (try clear lt_kn); have lt_kn := kn.lt; replace k7 := k7.step hy; (try clear k7_0 k7_f0 k7_1 k7_f1 k7_2 k7_f2); have k7_0 := k7.cell 0; have k7_f0 := k7.frozen 0; have k7_1 := k7.cell 1; have k7_f1 := k7.frozen 1; have k7_2 := k7.cell 2; have k7_f2 := k7.frozen 2; simp only [List.set_cons_zero, List.set_cons_succ, List.getElem?_cons_zero, List.getElem?_cons_succ] at k7_0 k7_1 k7_2; (try clear lt_k7); have lt_k7 := k7.lt; replace ka := ka.step hy; (try clear ka_0 ka_f0 ka_1 ka_f1 ka_2 ka_f2); have ka_0 := ka.cell 0; have ka_f0 := ka.frozen 0; have ka_1 := ka.cell 1; have ka_f1 := ka.frozen 1; have ka_2 := ka.cell 2; have ka_f2 := ka.frozen 2; simp only [List.set_cons_zero, List.set_cons_succ, List.getElem?_cons_zero, List.getElem?_cons_succ] at ka_0 ka_1 ka_2; (try clear lt_ka); have lt_ka := ka.lt
    replace hb0 : Below w.heap.size w z4 := hb0.step hy
    replace rA := rA.step hy; replace rL := rL.step hy; replace r7 := r7.step hy; replace rM := rM.step hy; replace raa := raa.step hy; replace rBa := rBa.step hy; replace rab := rab.step hy; replace rBb := rBb.step hy
    have kb_0 := kb.cell 0; have kb_f0 := kb.frozen 0; have kb_1 := kb.cell 1; have kb_f1 := kb.frozen 1; have kb_2 := kb.cell 2; have kb_f2 := kb.frozen 2; simp only [List.set_cons_zero, List.set_cons_succ, List.getElem?_cons_zero, List.getElem?_cons_succ] at kb_0 kb_1 kb_2; have lt_kb := kb.lt
    clear hy
    have qF : R.fl.length ≤ 1000 := by have := HSL.out; omega
    have qW : R.went.length ≤ 1000 := by have := HSL.out; omega
    have qM : R.went.length ≤ maxLen := by unfold maxLen; omega
    clear HSL

    refine wp_region_m [(1, StAt R.fl.length R.at_ R.mid (flR R.fl)), (3, only (.bool true)), (7, only (.bool true)), (17, only (.int .i64 (dCost ld R.went))), (20, only (.int .i64 (dCost ld R.went))), (25, StAt l.length at_ mid (flR l)), (27, only (.bool true)), (30, only (.bool true))] (by kernel_rfl) (by kernel_rfl) (by kernel_rfl) (by kernel_rfl) (sts_cons (sts_st _ _ _ _) (sts_cons (sts_only _) (sts_cons (sts_only _) (sts_cons (sts_only _) (sts_cons (sts_only _) (sts_cons (sts_st _ _ _ _) (sts_cons (sts_only _) (sts_cons (sts_only _) sts_nil)))))))) (fun kq => ?_); (try dsimp only [List.append])
    (repeat (refine wpM_via (by kernel_rfl) ?_; go_big_quiet_step (fail); refine wpQuiet_nil ?_))
    (refine wpM_spec _ (StAt R.fl.length R.at_ R.mid (flR R.fl)) (by kernel_rfl) (by kernel_rfl) rfl (later_some _) ?_ ?_; (focus (intro x hx hk; obtain ⟨px, rfl⟩ := hx; go_simp; (first | with_reducible refine mUpon_enter ?_ | with_reducible refine mUpon_value ?_); go_at_call 14; exact st_m (law_Back_any Aa ca R.fl R.at_ R.mid _ qF (raa.step (below_regrown z4 _ _))))); intro v hv K hK; obtain ⟨E1, e1, rfl⟩ := hv; go_big_quiet_op; refine hK _ ?_; clear hK K)
    (repeat (refine wpM_via (by kernel_rfl) ?_; go_big_quiet_step (fail); refine wpQuiet_nil ?_))
    (refine wpM_only _ (.bool true) (by kernel_rfl) (by kernel_rfl) rfl (later_some _) ?_ ?_; (focus (intro x hx hk; obtain ⟨px, rfl⟩ := hx; go_simp; (first | with_reducible refine mUpon_enter ?_ | with_reducible refine mUpon_value ?_); go_at_call 13; exact (ref_Same_self E1 Ab e1 cb R.fl R.at_ R.mid _ qF (st_of (hk.1 (by kernel_rfl))) (rab.step (below_regrown z4 _ _))).mo)); intro K hK; go_big_quiet_op; refine hK _ ?_; clear hK K)
    (repeat (refine wpM_via (by kernel_rfl) ?_; go_big_quiet_step (fail); refine wpQuiet_nil ?_))
    (refine wpM_only _ (.bool true) (by kernel_rfl) (by kernel_rfl) rfl (later_some _) ?_ ?_; (focus (intro x hx hk; obtain ⟨px, rfl⟩ := hx; go_simp; (first | with_reducible refine mUpon_enter ?_ | with_reducible refine mUpon_value ?_); go_at_call 15; exact (SameInts_self Ba Bb ba bb R.went _ qM (rBa.step (below_regrown z4 _ _)) (rBb.step (below_regrown z4 _ _))).mod)); intro K hK; go_big_quiet_op; refine hK _ ?_; clear hK K)
    (repeat (refine wpM_via (by kernel_rfl) ?_; go_big_quiet_step (fail); refine wpQuiet_nil ?_))
    (refine wpM_only _ (.int .i64 (dCost ld R.went)) (by kernel_rfl) (by kernel_rfl) rfl (later_some _) ?_ ?_; (focus (intro x hx hk; obtain ⟨px, rfl⟩ := hx; go_simp; (first | with_reducible refine mUpon_enter ?_ | with_reducible refine mUpon_value ?_); go_at_call 16; exact (drr_Cost_any M Ba dm ba ld R.went _ hm1 qW HX.out (rM.step (below_regrown z4 _ _)) (rBa.step (below_regrown z4 _ _))).mo)); intro K hK; go_big_quiet_op; refine hK _ ?_; clear hK K)
    (repeat (refine wpM_via (by kernel_rfl) ?_; go_big_quiet_step (fail); refine wpQuiet_nil ?_))
    (refine wpM_only _ (.int .i64 (dCost ld R.went)) (by kernel_rfl) (by kernel_rfl) rfl (later_some _) ?_ ?_; (focus (intro x hx hk; obtain ⟨px, rfl⟩ := hx; go_simp; (first | with_reducible refine mUpon_enter ?_ | with_reducible refine mUpon_value ?_); go_at_call 17; exact (ref_Cost_any L Bb d bb ld R.went _ hm1 qW HX.out (rL.step (below_regrown z4 _ _)) (rBb.step (below_regrown z4 _ _))).mo)); intro K hK; go_big_quiet_op; refine hK _ ?_; clear hK K)
    (repeat (refine wpM_via (by kernel_rfl) ?_; go_big_quiet_step (fail); refine wpQuiet_nil ?_))
    (refine wpM_spec _ (StAt l.length at_ mid (flR l)) (by kernel_rfl) (by kernel_rfl) rfl (later_some _) ?_ ?_; (focus (intro x hx hk; obtain ⟨px, rfl⟩ := hx; go_simp; (first | with_reducible refine mUpon_enter ?_ | with_reducible refine mUpon_value ?_); go_at_call 14; exact st_m (law_Back_any A7 c7 l at_ mid _ hl1 (r7.step (below_regrown z4 _ _))))); intro v hv K hK; obtain ⟨E4, e4, rfl⟩ := hv; go_big_quiet_op; refine hK _ ?_; clear hK K)
    (repeat (refine wpM_via (by kernel_rfl) ?_; go_big_quiet_step (fail); refine wpQuiet_nil ?_))
    (refine wpM_only _ (.bool true) (by kernel_rfl) (by kernel_rfl) rfl (later_some _) ?_ ?_; (focus (intro x hx hk; obtain ⟨px, rfl⟩ := hx; go_simp; (first | with_reducible refine mUpon_enter ?_ | with_reducible refine mUpon_value ?_); go_at_call 13; exact (ref_Same_self E4 A e4 c l at_ mid _ hl1 (st_of (hk.1 (by kernel_rfl))) (rA.step (below_regrown z4 _ _))).mo)); intro K hK; go_big_quiet_op; refine hK _ ?_; clear hK K)
    (repeat (refine wpM_via (by kernel_rfl) ?_; go_big_quiet_step (fail); refine wpQuiet_nil ?_))
    (refine wpM_only _ (.bool true) (by kernel_rfl) (by kernel_rfl) rfl (later_some _) ?_ ?_; (focus (intro x hx hk; obtain ⟨px, rfl⟩ := hx; go_simp; (first | with_reducible refine mUpon_enter ?_ | with_reducible refine mUpon_value ?_); go_at_call 8; exact (awake28_any _).mo)); intro K hK; go_big_quiet_op; refine hK _ ?_; clear hK K)
    (repeat (refine wpM_via (by kernel_rfl) ?_; go_big_quiet_step (fail); refine wpQuiet_nil ?_))
    refine wpM_nil ?_; intro wq hwq hfq; have hbq := below_of_class hwq; clear hwq kq; (try dsimp only [List.drop])
    go_wp2
    go_ret
    exact ⟨rfl, hb0.step hbq⟩
end Go.Proofs.Yteblbleehnkcmaa
