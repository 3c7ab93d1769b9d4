/- Packages bucket, level, jitter, admit and their references: Check, Usual, and what they need (picked out of my texts of the seats 13 16 17 18 by pick.py) -/
import Derived.Test.YtfbllioegeadfaaDoorRows
import Derived.Test.YtfbllioegeadfaaDoorGrd
import Derived.Test.YtfbllioegeadfaaDoorSame
import Derived.Test.YtfbllioegeadfaaDoorKeep
import Derived.Test.YtfbllioegeadfaaDoorRel5
import Derived.Test.YtfbllioegeadfaaDoorRel2
import Derived.Deep.RegionHeld3
import Derived.OwnWalk
import Derived.Deep.DeepCutAuto
namespace Go.Proofs.YtfbllioegeadfaaDoor
open Go.RowKit
set_option linter.unusedSimpArgs false
set_option linter.unusedVariables false

def bIn (n a b : Int) : Bool := decide (a ≤ n) && decide (n ≤ b)
def bGood (b r : Int) : Bool := bIn b 1 1000 && bIn r 0 1000
def bCheck (b r : Int) : Int := if bGood b r then 0 else 8
theorem bucket_in_any (n a b : Int) (w : World) :
    Calls Tryd.prog 56 #[.int .i64 n, .int .i64 a, .int .i64 b] w fun e w' => e = .returned (.bool (bIn n a b)) ∧ w = w' := by
  by_cases h1 : a ≤ n <;> by_cases h2 : n ≤ b
  all_goals
    go_enter Tryd.func56, Tryd.ntmps56
    go_wp2
    go_ret
    exact ⟨ret_bool (by simp [bIn, *]), rfl⟩
theorem bucket_Check_any (b r : Int) (w : World) :
    Calls Tryd.prog 42 #[.agg #[.int .i64 b, .int .i64 r]] w fun e w' => e = .returned (.int .i64 (bCheck b r)) ∧ Below w.heap.size w w' := by
  cases h1 : bIn b 1 1000 <;> cases h2 : bIn r 0 1000
  all_goals
    go_enter Tryd.func42, Tryd.ntmps42
    go_wp2_with (go_at_call 56; refine (bucket_in_any _ _ _ _).mono ?_; rintro e w' ⟨rfl, rfl⟩)
    go_ret
    exact ⟨ret_int (by simp [bCheck, bGood, h1, h2]), (Below.refl _ _).alloc (Nat.le_refl _) _⟩
def vIn (n a b : Int) : Bool := decide (a ≤ n) && decide (n ≤ b)
theorem vIn_t {n a b : Int} (h : vIn n a b = true) : a ≤ n ∧ n ≤ b := by simpa [vIn] using h
def vOk1 (up dn : Nat → Int) (k : Nat) : Bool := vIn (up k) 0 100 && vIn (dn k) 0 100
def vPrev (f : Nat → Int) : Nat → Int
  | 0 => 0
  | k + 1 => f k
def vOk2 (up dn : Nat → Int) (k : Nat) : Bool := decide (vPrev up k ≤ up k) && decide (vPrev dn k ≤ dn k) && decide (dn k ≤ up k)
def vLoads (up dn : Nat → Int) : Bool := vOk1 up dn 0 && vOk1 up dn 1 && vOk1 up dn 2
def vOrder (up dn : Nat → Int) : Bool := vOk2 up dn 0 && vOk2 up dn 1 && vOk2 up dn 2
def vCheck (up dn : Nat → Int) (hold : Int) : Int := if vLoads up dn && vIn hold 0 1000 then (if vOrder up dn then 0 else 10) else 8
abbrev lcV (up dn : Nat → Int) (hold : Int) : Value := .agg #[.int .i64 (up 0), .int .i64 (up 1), .int .i64 (up 2), .int .i64 (dn 0), .int .i64 (dn 1), .int .i64 (dn 2), .int .i64 hold]
abbrev lcC (up dn : Nat → Int) (hold : Int) : List Value := [.int .i64 (up 0), .int .i64 (up 1), .int .i64 (up 2), .int .i64 (dn 0), .int .i64 (dn 1), .int .i64 (dn 2), .int .i64 hold]
theorem up_cell {w : World} {g : Nat} {t : TypeId} {up dn : Nat → Int} {hold : Int} (h : Bk w g t (lcC up dn hold)) {k : Nat} (hk : k < 3) : w.cell? ⟨g, k, none⟩ = some (.int .i64 (up k)) := by
  rw [h.cell]
  match k, hk with
  | 0, _ => rfl
  | 1, _ => rfl
  | 2, _ => rfl
theorem dn_cell {w : World} {g : Nat} {t : TypeId} {up dn : Nat → Int} {hold : Int} (h : Bk w g t (lcC up dn hold)) {k : Nat} (hk : k < 3) : w.cell? ⟨g, 3 + k, none⟩ = some (.int .i64 (dn k)) := by
  rw [h.cell]
  match k, hk with
  | 0, _ => rfl
  | 1, _ => rfl
  | 2, _ => rfl
theorem vLoads_t {up dn : Nat → Int} (h : ∀ k, k < 3 → vOk1 up dn k = true) : vLoads up dn = true := by
  simp [vLoads, h 0 (by omega), h 1 (by omega), h 2 (by omega)]
theorem vLoads_f {up dn : Nat → Int} {k : Nat} (hk : k < 3) (h : vOk1 up dn k = false) : vLoads up dn = false := by
  have h4 : k = 0 ∨ k = 1 ∨ k = 2 := by omega
  rcases h4 with rfl | rfl | rfl <;> simp [vLoads, h]
theorem vOrder_t {up dn : Nat → Int} (h : ∀ k, k < 3 → vOk2 up dn k = true) : vOrder up dn = true := by
  simp [vOrder, h 0 (by omega), h 1 (by omega), h 2 (by omega)]
theorem vOrder_f {up dn : Nat → Int} {k : Nat} (hk : k < 3) (h : vOk2 up dn k = false) : vOrder up dn = false := by
  have h4 : k = 0 ∨ k = 1 ∨ k = 2 := by omega
  rcases h4 with rfl | rfl | rfl <;> simp [vOrder, h]
theorem vLoads_of {up dn : Nat → Int} (h : vLoads up dn = true) {k : Nat} (hk : k < 3) : (0 ≤ up k ∧ up k ≤ 100) ∧ 0 ≤ dn k ∧ dn k ≤ 100 := by
  simp only [vLoads, vOk1, Bool.and_eq_true] at h
  have h4 : k = 0 ∨ k = 1 ∨ k = 2 := by omega
  rcases h4 with rfl | rfl | rfl
  · exact ⟨vIn_t h.1.1.1, vIn_t h.1.1.2⟩
  · exact ⟨vIn_t h.1.2.1, vIn_t h.1.2.2⟩
  · exact ⟨vIn_t h.2.1, vIn_t h.2.2⟩
theorem level_in_any (n a b : Int) (w : World) :
    Calls Tryd.prog 58 #[.int .i64 n, .int .i64 a, .int .i64 b] w fun e w' => e = .returned (.bool (vIn n a b)) ∧ w = w' := by
  by_cases h1 : a ≤ n <;> by_cases h2 : n ≤ b
  all_goals
    go_enter Tryd.func58, Tryd.ntmps58
    go_wp2
    go_ret
    exact ⟨ret_bool (by simp [vIn, *]), rfl⟩
theorem level_in_is {n a b : Int} {v : Bool} (h : vIn n a b = v) (w : World) :
    Calls Tryd.prog 58 #[.int .i64 n, .int .i64 a, .int .i64 b] w fun e w' => e = .returned (.bool v) ∧ w = w' := by
  subst h; exact level_in_any n a b w
theorem idx3_0 (f : Nat → Int) (w : World) : (Instr.index 25 (.agg #[.int .i64 (f 0), .int .i64 (f 1), .int .i64 (f 2)]) (.int .i64 ((0 : Nat) : Int))).run Tryd.prog w = .ok (.int .i64 (f 0)) w := by kernel_rfl
theorem idx3_1 (f : Nat → Int) (w : World) : (Instr.index 25 (.agg #[.int .i64 (f 0), .int .i64 (f 1), .int .i64 (f 2)]) (.int .i64 ((1 : Nat) : Int))).run Tryd.prog w = .ok (.int .i64 (f 1)) w := by kernel_rfl
theorem idx3_2 (f : Nat → Int) (w : World) : (Instr.index 25 (.agg #[.int .i64 (f 0), .int .i64 (f 1), .int .i64 (f 2)]) (.int .i64 ((2 : Nat) : Int))).run Tryd.prog w = .ok (.int .i64 (f 2)) w := by kernel_rfl
theorem idx3 (f : Nat → Int) {k : Nat} (hk : k < 3) (w : World) : (Instr.index 25 (.agg #[.int .i64 (f 0), .int .i64 (f 1), .int .i64 (f 2)]) (.int .i64 k)).run Tryd.prog w = .ok (.int .i64 (f k)) w := by
  have h : k = 0 ∨ k = 1 ∨ k = 2 := by omega
  rcases h with rfl | rfl | rfl
  · exact idx3_0 f w
  · exact idx3_1 f w
  · exact idx3_2 f w
set_option maxHeartbeats 1000000 in
theorem level_loads_any (up dn : Nat → Int) (hold : Int) (w : World) :
    Calls Tryd.prog 57 #[lcV up dn hold] w fun e w' => e = .returned (.bool (vLoads up dn)) ∧ Below w.heap.size w w' := by
  go_enter Tryd.func57, Tryd.ntmps57
  go_wp2_with fail
  generalize hW : World.alloc w _ = w1
  have hb1 : Below w.heap.size w w1 := by subst hW; (repeat (first | with_reducible exact Below.refl _ _ | with_reducible assumption | with_reducible refine Below.drew ?_ | with_reducible refine Below.drewN ?_ _ | with_reducible refine Below.alloc1 ?_ _ | with_reducible refine Below.setCell1 ?_ (by first | omega | (simp; done) | (simp; omega)) _ | with_reducible refine Below.step ?_ (by with_reducible assumption)))
  have k0 : Bk w1 w.heap.size 27 (lcC up dn hold) := by subst hW; (repeat (first | with_reducible exact Bk.new' _ _ _ _ (by simp; done) | with_reducible assumption | with_reducible refine Bk.alloc ?_ _ | with_reducible refine Bk.drew ?_ | with_reducible refine Bk.drewN ?_ _ | with_reducible refine Bk.step ?_ (by with_reducible assumption) | with_reducible refine Bk.far ?_ (by first | omega | (simp; done) | (simp; omega)) _))
  have lk := k0.lt
  clear hW
  have k0_0 := k0.cell 0; have k0_f0 := k0.frozen 0; have k0_1 := k0.cell 1; have k0_f1 := k0.frozen 1; have k0_2 := k0.cell 2; have k0_f2 := k0.frozen 2; have k0_3 := k0.cell 3; have k0_f3 := k0.frozen 3; have k0_4 := k0.cell 4; have k0_f4 := k0.frozen 4; have k0_5 := k0.cell 5; have k0_f5 := k0.frozen 5; have k0_6 := k0.cell 6; have k0_f6 := k0.frozen 6; simp only [List.set_cons_zero, List.set_cons_succ, List.getElem?_cons_zero, List.getElem?_cons_succ] at k0_0 k0_1 k0_2 k0_3 k0_4 k0_5 k0_6
  go_loopw [7] (fun i wr => ∃ k : Nat, k ≤ 3 ∧ i = .int .i64 k ∧ (∀ j, j < k → vOk1 up dn j = true) ∧ wr = w1) (fun i _ => 3 - (intOf i).toNat)
  case atStart => exact ⟨0, by omega, rfl, by omega, rfl⟩
  case round =>
    obtain ⟨k, hk, rfl, hok, rfl⟩ := hrel
    by_cases hlt : k < 3
    · have c2 := dn_cell k0 hlt
      have i1 : ∀ w, _ := fun w => idx3 up hlt w
      cases e1 : vIn (up k) 0 100 <;> cases e2 : vIn (dn k) 0 100
      case true.true =>
        have hok' : ∀ j, j < k + 1 → vOk1 up dn j = true := fun j hj => by
          rcases Nat.lt_or_ge j k with h | h
          · exact hok j h
          · obtain rfl : j = k := by omega
            simp [vOk1, e1, e2]
        go_wp2_with (go_at_call 58; (first | with_reducible refine (level_in_is e1 _).mono ?_ | with_reducible refine (level_in_is e2 _).mono ?_); rintro e w' ⟨rfl, rfl⟩)
        go_roundw
        case rel => exact ⟨k + 1, by omega, by go_num, hok', by first | rfl | trivial⟩
        case measure => simp [intOf]; omega
      all_goals
        have hno : vOk1 up dn k = false := by simp [vOk1, e1, e2]
        have hc : vLoads up dn = false := vLoads_f hlt hno
        clear hno
        go_wp2_with (go_at_call 58; (first | with_reducible refine (level_in_is e1 _).mono ?_ | with_reducible refine (level_in_is e2 _).mono ?_); rintro e w' ⟨rfl, rfl⟩)
        go_ret
        exact ⟨ret_bool hc.symm, hb1⟩
    · have hc : vLoads up dn = true := vLoads_t fun j hj => hok j (by omega)
      go_wp2_with fail
      go_ret
      exact ⟨ret_bool hc.symm, hb1⟩
theorem level_loads_is {up dn : Nat → Int} {hold : Int} {v : Bool} (h : vLoads up dn = v) (w : World) :
    Calls Tryd.prog 57 #[lcV up dn hold] w fun e w' => e = .returned (.bool v) ∧ Below w.heap.size w w' := by
  subst h; exact level_loads_any up dn hold w
set_option maxHeartbeats 2000000 in
theorem level_Check_any (up dn : Nat → Int) (hold : Int) (w : World) :
    Calls Tryd.prog 43 #[lcV up dn hold] w fun e w' => e = .returned (.int .i64 (vCheck up dn hold)) ∧ Below w.heap.size w w' := by
  cases e1 : vLoads up dn
  · have hc : Hid (vCheck up dn hold = 8) := by show _ = _; simp [vCheck, e1]
    go_enter Tryd.func43, Tryd.ntmps43
    go_wp2_with fail
    refine (level_loads_is e1 _).mono ?_; rintro e w1 ⟨rfl, hb1⟩
    go_wp2_with fail
    go_ret
    exact ⟨ret_int hc.out.symm, by (repeat (first | with_reducible exact Below.refl _ _ | with_reducible assumption | with_reducible refine Below.drew ?_ | with_reducible refine Below.drewN ?_ _ | with_reducible refine Below.alloc1 ?_ _ | with_reducible refine Below.setCell1 ?_ (by first | omega | (simp; done) | (simp; omega)) _ | with_reducible refine Below.step ?_ (by with_reducible assumption)))⟩
  · cases e2 : vIn hold 0 1000
    · have hc : Hid (vCheck up dn hold = 8) := by show _ = _; simp [vCheck, e1, e2]
      go_enter Tryd.func43, Tryd.ntmps43
      go_wp2_with fail
      generalize hW : World.alloc w _ = w0
      have hb0 : Below w.heap.size w w0 := by subst hW; (repeat (first | with_reducible exact Below.refl _ _ | with_reducible assumption | with_reducible refine Below.drew ?_ | with_reducible refine Below.drewN ?_ _ | with_reducible refine Below.alloc1 ?_ _ | with_reducible refine Below.setCell1 ?_ (by first | omega | (simp; done) | (simp; omega)) _ | with_reducible refine Below.step ?_ (by with_reducible assumption)))
      have k0 : Bk w0 w.heap.size 27 (lcC up dn hold) := by subst hW; (repeat (first | with_reducible exact Bk.new' _ _ _ _ (by simp; done) | with_reducible assumption | with_reducible refine Bk.alloc ?_ _ | with_reducible refine Bk.drew ?_ | with_reducible refine Bk.drewN ?_ _ | with_reducible refine Bk.step ?_ (by with_reducible assumption) | with_reducible refine Bk.far ?_ (by first | omega | (simp; done) | (simp; omega)) _))
      clear hW
      refine (level_loads_is e1 _).mono ?_; rintro e w1 ⟨rfl, hb1⟩
      have k1 := k0.step hb1
      have lk := k1.lt
      have k1_0 := k1.cell 0; have k1_f0 := k1.frozen 0; have k1_1 := k1.cell 1; have k1_f1 := k1.frozen 1; have k1_2 := k1.cell 2; have k1_f2 := k1.frozen 2; have k1_3 := k1.cell 3; have k1_f3 := k1.frozen 3; have k1_4 := k1.cell 4; have k1_f4 := k1.frozen 4; have k1_5 := k1.cell 5; have k1_f5 := k1.frozen 5; have k1_6 := k1.cell 6; have k1_f6 := k1.frozen 6; simp only [List.set_cons_zero, List.set_cons_succ, List.getElem?_cons_zero, List.getElem?_cons_succ] at k1_0 k1_1 k1_2 k1_3 k1_4 k1_5 k1_6
      go_wp2_with fail
      refine (level_in_is e2 _).mono ?_; rintro e w' ⟨rfl, rfl⟩
      go_wp2_with fail
      go_ret
      exact ⟨ret_int hc.out.symm, by (repeat (first | with_reducible exact Below.refl _ _ | with_reducible assumption | with_reducible refine Below.drew ?_ | with_reducible refine Below.drewN ?_ _ | with_reducible refine Below.alloc1 ?_ _ | with_reducible refine Below.setCell1 ?_ (by first | omega | (simp; done) | (simp; omega)) _ | with_reducible refine Below.step ?_ (by with_reducible assumption)))⟩
    · have HC : Hid (vCheck up dn hold = if vOrder up dn then 0 else 10) := by show _ = _; simp [vCheck, e1, e2]
      have hl := fun k (hk : k < 3) => vLoads_of e1 hk
      go_enter Tryd.func43, Tryd.ntmps43
      go_wp2_with fail
      generalize hW : World.alloc w _ = w0
      have hb0 : Below w.heap.size w w0 := by subst hW; (repeat (first | with_reducible exact Below.refl _ _ | with_reducible assumption | with_reducible refine Below.drew ?_ | with_reducible refine Below.drewN ?_ _ | with_reducible refine Below.alloc1 ?_ _ | with_reducible refine Below.setCell1 ?_ (by first | omega | (simp; done) | (simp; omega)) _ | with_reducible refine Below.step ?_ (by with_reducible assumption)))
      have k0 : Bk w0 w.heap.size 27 (lcC up dn hold) := by subst hW; (repeat (first | with_reducible exact Bk.new' _ _ _ _ (by simp; done) | with_reducible assumption | with_reducible refine Bk.alloc ?_ _ | with_reducible refine Bk.drew ?_ | with_reducible refine Bk.drewN ?_ _ | with_reducible refine Bk.step ?_ (by with_reducible assumption) | with_reducible refine Bk.far ?_ (by first | omega | (simp; done) | (simp; omega)) _))
      clear hW
      refine (level_loads_is e1 _).mono ?_; rintro e w1 ⟨rfl, hb1⟩
      have k1 := k0.step hb1
      have hb2 : Below w.heap.size w w1 := by (repeat (first | with_reducible exact Below.refl _ _ | with_reducible assumption | with_reducible refine Below.drew ?_ | with_reducible refine Below.drewN ?_ _ | with_reducible refine Below.alloc1 ?_ _ | with_reducible refine Below.setCell1 ?_ (by first | omega | (simp; done) | (simp; omega)) _ | with_reducible refine Below.step ?_ (by with_reducible assumption)))
      have lk := k1.lt
      have k1_0 := k1.cell 0; have k1_f0 := k1.frozen 0; have k1_1 := k1.cell 1; have k1_f1 := k1.frozen 1; have k1_2 := k1.cell 2; have k1_f2 := k1.frozen 2; have k1_3 := k1.cell 3; have k1_f3 := k1.frozen 3; have k1_4 := k1.cell 4; have k1_f4 := k1.frozen 4; have k1_5 := k1.cell 5; have k1_f5 := k1.frozen 5; have k1_6 := k1.cell 6; have k1_f6 := k1.frozen 6; simp only [List.set_cons_zero, List.set_cons_succ, List.getElem?_cons_zero, List.getElem?_cons_succ] at k1_0 k1_1 k1_2 k1_3 k1_4 k1_5 k1_6
      go_wp2_with fail
      refine (level_in_is e2 _).mono ?_; rintro e w' ⟨rfl, rfl⟩
      go_wp2_with fail
      clear k1_0 k1_1 k1_2 k1_3 k1_4 k1_5 k1_6 k1_f0 k1_f1 k1_f2 k1_f3 k1_f4 k1_f5 k1_f6 k0 hb0 hb1
      have HB := hide hb2
      have HL := hide hl
      clear hb2 hl e1 e2
      go_loopw [3, 4, 15] (fun o p i wr => ∃ (k n : Nat), k ≤ 3 ∧ i = .int .i64 k ∧ o = .int .i64 (vPrev up k) ∧ p = .int .i64 (vPrev dn k) ∧ Hid (∀ j, j < k → vOk2 up dn j = true) ∧ wr = w1.drewN n) (fun _ _ i _ => 3 - (intOf i).toNat)
      case atStart => exact ⟨0, 0, by omega, rfl, rfl, rfl, (fun j hj => by omega), rfl⟩
      case round =>
        obtain ⟨k, n, hk, rfl, rfl, rfl, hok, rfl⟩ := hrel
        by_cases hlt : k < 3
        · have c1 := up_cell k1 hlt
          have c2 := dn_cell k1 hlt
          have lk' : w.heap.size < (w1.drewN n).heap.size := lk
          have hno : Hid (vOk2 up dn k = false → vCheck up dn hold = 10) := fun h => by rw [HC.out, vOrder_f hlt h]; rfl
          have hok' : Hid (vOk2 up dn k = true → ∀ j, j < k + 1 → vOk2 up dn j = true) := fun a j hj => by
            rcases Nat.lt_or_ge j k with h | h
            · exact hok.out j h
            · obtain rfl : j = k := by omega
              exact a
          have HD : Hid (vOk2 up dn k = (decide (vPrev up k ≤ up k) && decide (vPrev dn k ≤ dn k) && decide (dn k ≤ up k))) := rfl
          by_cases a1 : up k < vPrev up k
          · go_wp2_with fail
            go_quiet (fail)
            go_wp2_with fail
            go_ret
            exact ⟨ret_int (hno.out (by rw [HD.out]; simp only [Bool.and_eq_false_iff, decide_eq_false_iff_not]; omega)).symm, (HB.out.drewN _).drewN _⟩
          · have d1 : decide (up k < vPrev up k) = false := by simpa using a1
            by_cases a2 : dn k < vPrev dn k
            · go_wp2_with fail
              go_quiet (fail)
              go_wp2_with fail
              go_ret
              exact ⟨ret_int (hno.out (by rw [HD.out]; simp only [Bool.and_eq_false_iff, decide_eq_false_iff_not]; omega)).symm, (HB.out.drewN _).drewN _⟩
            · have d2 : decide (dn k < vPrev dn k) = false := by simpa using a2
              by_cases a3 : up k < dn k
              · go_wp2_with fail
                go_quiet (fail)
                go_wp2_with fail
                go_ret
                exact ⟨ret_int (hno.out (by rw [HD.out]; simp only [Bool.and_eq_false_iff, decide_eq_false_iff_not]; omega)).symm, (HB.out.drewN _).drewN _⟩
              · have d3 : decide (up k < dn k) = false := by simpa using a3
                go_wp2_with fail
                go_quiet (fail)
                go_wp2_with fail
                go_quiet (fail)
                go_wp2_with fail
                go_roundw
                case rel => exact ⟨k + 1, _, by omega, by go_num, rfl, rfl, hok'.out (by rw [HD.out]; simp only [Bool.and_eq_true, decide_eq_true_eq]; omega), rfl⟩
                case measure => simp [intOf]; omega
        · have hc : Hid (vCheck up dn hold = 0) := by show _ = _; rw [HC.out, vOrder_t fun j hj => hok.out j (by omega)]; rfl
          go_wp2_with fail
          go_ret
          exact ⟨ret_int hc.out.symm, HB.out.drewN _⟩
def u3 (a b c : Int) : Nat → Int
  | 0 => a
  | 1 => b
  | _ => c
theorem level_Usual_any (w : World) : Calls Tryd.prog 45 #[] w fun e w' => e = .returned (lcV (u3 50 75 90) (u3 40 60 80) 5) ∧ Below w.heap.size w w' := by
  go_enter Tryd.func45, Tryd.ntmps45
  go_wp2
  exact bodyPost_ret (v := lcV (u3 50 75 90) (u3 40 60 80) 5) (by simp only [lcV, u3]; simp only [results, Tryd.results45]; go_simp) rfl ⟨rfl, by (repeat (first | with_reducible exact Below.refl _ _ | with_reducible assumption | with_reducible refine Below.drew ?_ | with_reducible refine Below.drewN ?_ _ | with_reducible refine Below.alloc1 ?_ _ | with_reducible refine Below.setCell1 ?_ (by first | omega | (simp; done) | (simp; omega)) _ | with_reducible refine Below.step ?_ (by with_reducible assumption)))⟩
def jIn (n a b : Int) : Bool := decide (a ≤ n) && decide (n ≤ b)
theorem jIn_t {n a b : Int} (h : jIn n a b = true) : a ≤ n ∧ n ≤ b := by simpa [jIn] using h
/-- may a level's ends be -/
def jOk1 (lo hi : Nat → Int) (k : Nat) : Bool := jIn (lo k) 1 10000 && jIn (hi k) 1 10000
def jPrev (f : Nat → Int) : Nat → Int
  | 0 => 0
  | k + 1 => f k
def jOk2 (lo hi : Nat → Int) (k : Nat) : Bool := decide (jPrev lo k ≤ lo k) && decide (jPrev hi k ≤ hi k) && decide (lo k ≤ hi k)
def jCheck (lo hi : Nat → Int) : Int := if jOk1 lo hi 0 && jOk1 lo hi 1 && jOk1 lo hi 2 && jOk1 lo hi 3 then (if jOk2 lo hi 0 && jOk2 lo hi 1 && jOk2 lo hi 2 && jOk2 lo hi 3 then 0 else 10) else 8
abbrev confV (lo hi : Nat → Int) : Value := .agg #[.int .i64 (lo 0), .int .i64 (lo 1), .int .i64 (lo 2), .int .i64 (lo 3), .int .i64 (hi 0), .int .i64 (hi 1), .int .i64 (hi 2), .int .i64 (hi 3)]
abbrev confC (lo hi : Nat → Int) : List Value := [.int .i64 (lo 0), .int .i64 (lo 1), .int .i64 (lo 2), .int .i64 (lo 3), .int .i64 (hi 0), .int .i64 (hi 1), .int .i64 (hi 2), .int .i64 (hi 3)]
theorem lo_cell {w : World} {g : Nat} {t : TypeId} {lo hi : Nat → Int} (h : Bk w g t (confC lo hi)) {k : Nat} (hk : k < 4) : w.cell? ⟨g, k, none⟩ = some (.int .i64 (lo k)) := by
  rw [h.cell]
  match k, hk with
  | 0, _ => rfl
  | 1, _ => rfl
  | 2, _ => rfl
  | 3, _ => rfl
theorem hi_cell {w : World} {g : Nat} {t : TypeId} {lo hi : Nat → Int} (h : Bk w g t (confC lo hi)) {k : Nat} (hk : k < 4) : w.cell? ⟨g, 4 + k, none⟩ = some (.int .i64 (hi k)) := by
  rw [h.cell]
  match k, hk with
  | 0, _ => rfl
  | 1, _ => rfl
  | 2, _ => rfl
  | 3, _ => rfl
theorem jitter_in_any (n a b : Int) (w : World) :
    Calls Tryd.prog 59 #[.int .i64 n, .int .i64 a, .int .i64 b] w fun e w' => e = .returned (.bool (jIn n a b)) ∧ w = w' := by
  by_cases h1 : a ≤ n <;> by_cases h2 : n ≤ b
  all_goals
    go_enter Tryd.func59, Tryd.ntmps59
    go_wp2
    go_ret
    exact ⟨ret_bool (by simp [jIn, *]), rfl⟩
theorem jitter_in_is {n a b : Int} {v : Bool} (h : jIn n a b = v) (w : World) :
    Calls Tryd.prog 59 #[.int .i64 n, .int .i64 a, .int .i64 b] w fun e w' => e = .returned (.bool v) ∧ w = w' := by
  subst h; exact jitter_in_any n a b w
theorem idx4_0 (f : Nat → Int) (w : World) : (Instr.index 28 (.agg #[.int .i64 (f 0), .int .i64 (f 1), .int .i64 (f 2), .int .i64 (f 3)]) (.int .i64 ((0 : Nat) : Int))).run Tryd.prog w = .ok (.int .i64 (f 0)) w := by kernel_rfl
theorem idx4_1 (f : Nat → Int) (w : World) : (Instr.index 28 (.agg #[.int .i64 (f 0), .int .i64 (f 1), .int .i64 (f 2), .int .i64 (f 3)]) (.int .i64 ((1 : Nat) : Int))).run Tryd.prog w = .ok (.int .i64 (f 1)) w := by kernel_rfl
theorem idx4_2 (f : Nat → Int) (w : World) : (Instr.index 28 (.agg #[.int .i64 (f 0), .int .i64 (f 1), .int .i64 (f 2), .int .i64 (f 3)]) (.int .i64 ((2 : Nat) : Int))).run Tryd.prog w = .ok (.int .i64 (f 2)) w := by kernel_rfl
theorem idx4_3 (f : Nat → Int) (w : World) : (Instr.index 28 (.agg #[.int .i64 (f 0), .int .i64 (f 1), .int .i64 (f 2), .int .i64 (f 3)]) (.int .i64 ((3 : Nat) : Int))).run Tryd.prog w = .ok (.int .i64 (f 3)) w := by kernel_rfl
theorem idx4 (f : Nat → Int) {k : Nat} (hk : k < 4) (w : World) : (Instr.index 28 (.agg #[.int .i64 (f 0), .int .i64 (f 1), .int .i64 (f 2), .int .i64 (f 3)]) (.int .i64 k)).run Tryd.prog w = .ok (.int .i64 (f k)) w := by
  have h : k = 0 ∨ k = 1 ∨ k = 2 ∨ k = 3 := by omega
  rcases h with rfl | rfl | rfl | rfl
  · exact idx4_0 f w
  · exact idx4_1 f w
  · exact idx4_2 f w
  · exact idx4_3 f w
set_option maxHeartbeats 2000000 in
theorem jitter_Check_any (lo hi : Nat → Int) (w : World) :
    Calls Tryd.prog 44 #[confV lo hi] w fun e w' => e = .returned (.int .i64 (jCheck lo hi)) ∧ Below w.heap.size w w' := by
  go_enter Tryd.func44, Tryd.ntmps44
  go_wp2_with fail
  generalize hW : World.alloc w _ = w1
  have hb1 : Below w.heap.size w w1 := by subst hW; (repeat (first | with_reducible exact Below.refl _ _ | with_reducible assumption | with_reducible refine Below.drew ?_ | with_reducible refine Below.drewN ?_ _ | with_reducible refine Below.alloc1 ?_ _ | with_reducible refine Below.setCell1 ?_ (by first | omega | (simp; done) | (simp; omega)) _ | with_reducible refine Below.step ?_ (by with_reducible assumption)))
  have k0 : Bk w1 w.heap.size 30 (confC lo hi) := by subst hW; (repeat (first | with_reducible exact Bk.new' _ _ _ _ (by simp; done) | with_reducible assumption | with_reducible refine Bk.alloc ?_ _ | with_reducible refine Bk.drew ?_ | with_reducible refine Bk.drewN ?_ _ | with_reducible refine Bk.step ?_ (by with_reducible assumption) | with_reducible refine Bk.far ?_ (by first | omega | (simp; done) | (simp; omega)) _))
  have lk := k0.lt
  clear hW
  have k0_0 := k0.cell 0; have k0_f0 := k0.frozen 0; have k0_1 := k0.cell 1; have k0_f1 := k0.frozen 1; have k0_2 := k0.cell 2; have k0_f2 := k0.frozen 2; have k0_3 := k0.cell 3; have k0_f3 := k0.frozen 3; have k0_4 := k0.cell 4; have k0_f4 := k0.frozen 4; have k0_5 := k0.cell 5; have k0_f5 := k0.frozen 5; have k0_6 := k0.cell 6; have k0_f6 := k0.frozen 6; have k0_7 := k0.cell 7; have k0_f7 := k0.frozen 7; simp only [List.set_cons_zero, List.set_cons_succ, List.getElem?_cons_zero, List.getElem?_cons_succ] at k0_0 k0_1 k0_2 k0_3 k0_4 k0_5 k0_6 k0_7
  go_loopw [11] (fun i wr => ∃ k : Nat, k ≤ 4 ∧ i = .int .i64 k ∧ (∀ j, j < k → jOk1 lo hi j = true) ∧ wr = w1) (fun i _ => 4 - (intOf i).toNat)
  case atStart => exact ⟨0, by omega, rfl, by omega, rfl⟩
  case round =>
    obtain ⟨k, hk, rfl, hok, rfl⟩ := hrel
    by_cases hlt : k < 4
    · have c1 := lo_cell k0 hlt
      have c2 := hi_cell k0 hlt
      have i1 : ∀ w, _ := fun w => idx4 lo hlt w
      cases e1 : jIn (lo k) 1 10000 <;> cases e2 : jIn (hi k) 1 10000
      case true.true =>
        have hok' : ∀ j, j < k + 1 → jOk1 lo hi j = true := fun j hj => by
          rcases Nat.lt_or_ge j k with h | h
          · exact hok j h
          · obtain rfl : j = k := by omega
            simp [jOk1, e1, e2]
        go_wp2_with (go_at_call 59; (first | with_reducible refine (jitter_in_is e1 _).mono ?_ | with_reducible refine (jitter_in_is e2 _).mono ?_); rintro e w' ⟨rfl, rfl⟩)
        go_roundw
        case rel => exact ⟨k + 1, by omega, by go_num, hok', by first | rfl | trivial⟩
        case measure => simp [intOf]; omega
      all_goals
        have hno : jOk1 lo hi k = false := by simp [jOk1, e1, e2]
        have hc : jCheck lo hi = 8 := by
          unfold jCheck
          rw [if_neg]
          intro h
          simp only [Bool.and_eq_true] at h
          have h4 : k = 0 ∨ k = 1 ∨ k = 2 ∨ k = 3 := by omega
          rcases h4 with rfl | rfl | rfl | rfl <;> simp_all
        go_wp2_with (go_at_call 59; (first | with_reducible refine (jitter_in_is e1 _).mono ?_ | with_reducible refine (jitter_in_is e2 _).mono ?_); rintro e w' ⟨rfl, rfl⟩)
        go_ret
        exact ⟨ret_int hc.symm, hb1⟩
    · have hall : (jOk1 lo hi 0 && jOk1 lo hi 1 && jOk1 lo hi 2 && jOk1 lo hi 3) = true := by simp [hok 0 (by omega), hok 1 (by omega), hok 2 (by omega), hok 3 (by omega)]
      have hcc : jCheck lo hi = if jOk2 lo hi 0 && jOk2 lo hi 1 && jOk2 lo hi 2 && jOk2 lo hi 3 then 0 else 10 := by unfold jCheck; rw [if_pos hall]
      go_wp2_with fail
      obtain ⟨w1, rfl⟩ : ∃ w1 : World, w1 = wr := ⟨_, rfl⟩
      go_loopw [5, 6, 29] (fun o p i wr => ∃ (k n : Nat), k ≤ 4 ∧ i = .int .i64 k ∧ o = .int .i64 (jPrev lo k) ∧ p = .int .i64 (jPrev hi k) ∧ (∀ j, j < k → jOk2 lo hi j = true) ∧ wr = w1.drewN n) (fun _ _ i _ => 4 - (intOf i).toNat)
      case atStart => exact ⟨0, 0, by omega, rfl, rfl, rfl, by omega, rfl⟩
      case round =>
        clear hok hlt hk k0_0 k0_1 k0_2 k0_3 k0_4 k0_5 k0_6 k0_7 k0_f0 k0_f1 k0_f2 k0_f3 k0_f4 k0_f5 k0_f6 k0_f7
        obtain ⟨k, n, hk, rfl, rfl, rfl, hok, rfl⟩ := hrel
        by_cases hlt : k < 4
        · have c1 := lo_cell (k0.drewN n) hlt
          have c2 := hi_cell (k0.drewN n) hlt
          have d2 := hi_cell k0 hlt
          have i1 : ∀ w, _ := fun w => idx4 lo hlt w
          have lk' : w.heap.size < (w1.drewN n).heap.size := lk
          by_cases a : jOk2 lo hi k = true
          · have hok' : ∀ j, j < k + 1 → jOk2 lo hi j = true := fun j hj => by
              rcases Nat.lt_or_ge j k with h | h
              · exact hok j h
              · obtain rfl : j = k := by omega
                exact a
            have a' := a
            simp only [jOk2, Bool.and_eq_true, decide_eq_true_eq] at a'
            go_wp2_with fail
            go_quiet (fail)
            go_wp2_with fail
            go_roundw
            case rel => exact ⟨k + 1, _, by omega, by go_num, rfl, rfl, hok', rfl⟩
            case measure => simp [intOf]; omega
          · have hc : jCheck lo hi = 10 := by
              rw [hcc, if_neg]
              intro h
              simp only [Bool.and_eq_true] at h
              have h4 : k = 0 ∨ k = 1 ∨ k = 2 ∨ k = 3 := by omega
              rcases h4 with rfl | rfl | rfl | rfl <;> simp_all
            have a' : jOk2 lo hi k = false := by simpa using a
            simp only [jOk2, Bool.and_eq_false_iff, decide_eq_false_iff_not, Int.not_le] at a'
            by_cases a1 : lo k < jPrev lo k
            · go_wp2_with fail
              go_ret
              exact ⟨ret_int hc.symm, hb1.drewN _⟩
            · replace a1 : jPrev lo k ≤ lo k := by omega
              by_cases a2 : hi k < jPrev hi k
              · go_wp2_with fail
                go_ret
                exact ⟨ret_int hc.symm, hb1.drewN _⟩
              · replace a2 : jPrev hi k ≤ hi k := by omega
                have a3 : hi k < lo k := by omega
                clear a'
                go_wp2_with fail
                go_ret
                exact ⟨ret_int hc.symm, hb1.drewN _⟩
        · have hc : jCheck lo hi = 0 := by rw [hcc, if_pos]; simp [hok 0 (by omega), hok 1 (by omega), hok 2 (by omega), hok 3 (by omega)]
          go_wp2_with fail
          go_ret
          exact ⟨ret_int hc.symm, hb1.drewN _⟩
def uLo : Nat → Int
  | 0 => 1
  | 1 => 5
  | 2 => 20
  | _ => 60
def uHi : Nat → Int
  | 0 => 4
  | 1 => 20
  | 2 => 60
  | _ => 240
theorem jitter_Usual_any (w : World) :
    Calls Tryd.prog 46 #[] w fun e w' => e = .returned (confV uLo uHi) ∧ Below w.heap.size w w' := by
  go_enter Tryd.func46, Tryd.ntmps46
  go_wp2
  exact bodyPost_ret (v := confV uLo uHi) (by simp only [confV, uLo, uHi]; simp only [results, Tryd.results46]; go_simp) rfl ⟨rfl, by (repeat (first | with_reducible exact Below.refl _ _ | with_reducible assumption | with_reducible refine Below.drew ?_ | with_reducible refine Below.drewN ?_ _ | with_reducible refine Below.alloc1 ?_ _ | with_reducible refine Below.setCell1 ?_ (by first | omega | (simp; done) | (simp; omega)) _ | with_reducible refine Below.step ?_ (by with_reducible assumption)))⟩
structure AC where
  ab : Int
  ar : Int
  eb : Int
  er : Int
  up : Nat → Int
  dn : Nat → Int
  hold : Int
  lo : Nat → Int
  hi : Nat → Int
abbrev acC (ab ar eb er : Int) (up dn : Nat → Int) (hold : Int) (lo hi : Nat → Int) : List Value := [.int .i64 ab, .int .i64 ar, .int .i64 eb, .int .i64 er, .int .i64 (up 0), .int .i64 (up 1), .int .i64 (up 2), .int .i64 (dn 0), .int .i64 (dn 1), .int .i64 (dn 2), .int .i64 hold, .int .i64 (lo 0), .int .i64 (lo 1), .int .i64 (lo 2), .int .i64 (lo 3), .int .i64 (hi 0), .int .i64 (hi 1), .int .i64 (hi 2), .int .i64 (hi 3)]
abbrev acV (ab ar eb er : Int) (up dn : Nat → Int) (hold : Int) (lo hi : Nat → Int) : Value := .agg #[.int .i64 ab, .int .i64 ar, .int .i64 eb, .int .i64 er, .int .i64 (up 0), .int .i64 (up 1), .int .i64 (up 2), .int .i64 (dn 0), .int .i64 (dn 1), .int .i64 (dn 2), .int .i64 hold, .int .i64 (lo 0), .int .i64 (lo 1), .int .i64 (lo 2), .int .i64 (lo 3), .int .i64 (hi 0), .int .i64 (hi 1), .int .i64 (hi 2), .int .i64 (hi 3)]
abbrev AC.V (c : AC) : Value := acV c.ab c.ar c.eb c.er c.up c.dn c.hold c.lo c.hi
def aCheck (c : AC) : Int := if bCheck c.ab c.ar ≠ 0 then bCheck c.ab c.ar else if bCheck c.eb c.er ≠ 0 then bCheck c.eb c.er else if vCheck c.up c.dn c.hold ≠ 0 then vCheck c.up c.dn c.hold else jCheck c.lo c.hi
def aUsual : AC := ⟨8, 2, 3, 1, u3 50 75 90, u3 40 60 80, 5, uLo, uHi⟩
set_option maxRecDepth 100000 in
set_option maxHeartbeats 4000000 in
theorem admit_Check_any (c : AC) (w : World) : Calls Tryd.prog 24 #[c.V] w fun e w' => e = .returned (.int .i64 (aCheck c)) ∧ Below w.heap.size w w' := by
  have h1 := fun W => bucket_Check_any c.ab c.ar W
  have h2 := fun W => bucket_Check_any c.eb c.er W
  have h3 := fun W => level_Check_any c.up c.dn c.hold W
  have h4 := fun W => jitter_Check_any c.lo c.hi W
  have HC := hide (show aCheck c = if bCheck c.ab c.ar ≠ 0 then bCheck c.ab c.ar else if bCheck c.eb c.er ≠ 0 then bCheck c.eb c.er else if vCheck c.up c.dn c.hold ≠ 0 then vCheck c.up c.dn c.hold else jCheck c.lo c.hi from rfl)
  generalize bCheck c.ab c.ar = v1 at *
  generalize bCheck c.eb c.er = v2 at *
  generalize vCheck c.up c.dn c.hold = v3 at *
  generalize jCheck c.lo c.hi = v4 at *
  unfold AC.V
  generalize aCheck c = R at *
  obtain ⟨ab, ar, eb, er, up, dn, hold, lo, hi⟩ := c
  dsimp only at *
  go_enter Tryd.func24, Tryd.ntmps24
  go_wp2_with fail
  generalize hV : World.alloc w _ = w1
  have hb1 : Below w.heap.size w w1 := by subst hV; (repeat (first | with_reducible exact Below.refl _ _ | with_reducible assumption | with_reducible refine Below.drew ?_ | with_reducible refine Below.drewN ?_ _ | with_reducible refine Below.alloc1 ?_ _ | with_reducible refine Below.setCell1 ?_ (by first | omega | (simp; done) | (simp; omega)) _ | with_reducible refine Below.step ?_ (by with_reducible assumption)))
  have k0 : Bk w1 w.heap.size 32 (acC ab ar eb er up dn hold lo hi) := by subst hV; (repeat (first | with_reducible exact Bk.new' _ _ _ _ (by simp; done) | with_reducible assumption | with_reducible refine Bk.alloc ?_ _ | with_reducible refine Bk.drew ?_ | with_reducible refine Bk.drewN ?_ _ | with_reducible refine Bk.step ?_ (by with_reducible assumption) | with_reducible refine Bk.far ?_ (by first | omega | (simp; done) | (simp; omega)) _))
  clear hV
  refine (h1 _).mono ?_; rintro e x0 ⟨rfl, hx⟩
  replace k0 := k0.step hx
  replace hb1 : Below w.heap.size w x0 := hb1.step hx
  clear hx h1
  have k0_0 := k0.cell 0; have k0_f0 := k0.frozen 0; have k0_1 := k0.cell 1; have k0_f1 := k0.frozen 1; have k0_2 := k0.cell 2; have k0_f2 := k0.frozen 2; have k0_3 := k0.cell 3; have k0_f3 := k0.frozen 3; have k0_4 := k0.cell 4; have k0_f4 := k0.frozen 4; have k0_5 := k0.cell 5; have k0_f5 := k0.frozen 5; have k0_6 := k0.cell 6; have k0_f6 := k0.frozen 6; have k0_7 := k0.cell 7; have k0_f7 := k0.frozen 7; have k0_8 := k0.cell 8; have k0_f8 := k0.frozen 8; have k0_9 := k0.cell 9; have k0_f9 := k0.frozen 9; have k0_10 := k0.cell 10; have k0_f10 := k0.frozen 10; have k0_11 := k0.cell 11; have k0_f11 := k0.frozen 11; have k0_12 := k0.cell 12; have k0_f12 := k0.frozen 12; have k0_13 := k0.cell 13; have k0_f13 := k0.frozen 13; have k0_14 := k0.cell 14; have k0_f14 := k0.frozen 14; have k0_15 := k0.cell 15; have k0_f15 := k0.frozen 15; have k0_16 := k0.cell 16; have k0_f16 := k0.frozen 16; have k0_17 := k0.cell 17; have k0_f17 := k0.frozen 17; have k0_18 := k0.cell 18; have k0_f18 := k0.frozen 18; simp only [List.set_cons_zero, List.set_cons_succ, List.getElem?_cons_zero, List.getElem?_cons_succ] at k0_0 k0_1 k0_2 k0_3 k0_4 k0_5 k0_6 k0_7 k0_8 k0_9 k0_10 k0_11 k0_12 k0_13 k0_14 k0_15 k0_16 k0_17 k0_18; have lt_k0 := k0.lt
  by_cases e1 : v1 = 0
  · subst e1
    have HC2 := HC.out
    rw [if_neg (by simp)] at HC2
    replace HC := hide HC2
    clear HC2
    go_wp2_with fail
    refine (h2 _).mono ?_; rintro e x1 ⟨rfl, hx⟩
    replace k0 := k0.step hx; (try clear k0_0 k0_f0 k0_1 k0_f1 k0_2 k0_f2 k0_3 k0_f3 k0_4 k0_f4 k0_5 k0_f5 k0_6 k0_f6 k0_7 k0_f7 k0_8 k0_f8 k0_9 k0_f9 k0_10 k0_f10 k0_11 k0_f11 k0_12 k0_f12 k0_13 k0_f13 k0_14 k0_f14 k0_15 k0_f15 k0_16 k0_f16 k0_17 k0_f17 k0_18 k0_f18); have k0_0 := k0.cell 0; have k0_f0 := k0.frozen 0; have k0_1 := k0.cell 1; have k0_f1 := k0.frozen 1; have k0_2 := k0.cell 2; have k0_f2 := k0.frozen 2; have k0_3 := k0.cell 3; have k0_f3 := k0.frozen 3; have k0_4 := k0.cell 4; have k0_f4 := k0.frozen 4; have k0_5 := k0.cell 5; have k0_f5 := k0.frozen 5; have k0_6 := k0.cell 6; have k0_f6 := k0.frozen 6; have k0_7 := k0.cell 7; have k0_f7 := k0.frozen 7; have k0_8 := k0.cell 8; have k0_f8 := k0.frozen 8; have k0_9 := k0.cell 9; have k0_f9 := k0.frozen 9; have k0_10 := k0.cell 10; have k0_f10 := k0.frozen 10; have k0_11 := k0.cell 11; have k0_f11 := k0.frozen 11; have k0_12 := k0.cell 12; have k0_f12 := k0.frozen 12; have k0_13 := k0.cell 13; have k0_f13 := k0.frozen 13; have k0_14 := k0.cell 14; have k0_f14 := k0.frozen 14; have k0_15 := k0.cell 15; have k0_f15 := k0.frozen 15; have k0_16 := k0.cell 16; have k0_f16 := k0.frozen 16; have k0_17 := k0.cell 17; have k0_f17 := k0.frozen 17; have k0_18 := k0.cell 18; have k0_f18 := k0.frozen 18; simp only [List.set_cons_zero, List.set_cons_succ, List.getElem?_cons_zero, List.getElem?_cons_succ] at k0_0 k0_1 k0_2 k0_3 k0_4 k0_5 k0_6 k0_7 k0_8 k0_9 k0_10 k0_11 k0_12 k0_13 k0_14 k0_15 k0_16 k0_17 k0_18; (try clear lt_k0); have lt_k0 := k0.lt
    replace hb1 : Below w.heap.size w x1 := hb1.step hx
    clear hx h2
    by_cases e2 : v2 = 0
    · subst e2
      have HC2 := HC.out
      rw [if_neg (by simp)] at HC2
      replace HC := hide HC2
      clear HC2
      go_wp2_with fail
      refine (h3 _).mono ?_; rintro e x2 ⟨rfl, hx⟩
      replace k0 := k0.step hx; (try clear k0_0 k0_f0 k0_1 k0_f1 k0_2 k0_f2 k0_3 k0_f3 k0_4 k0_f4 k0_5 k0_f5 k0_6 k0_f6 k0_7 k0_f7 k0_8 k0_f8 k0_9 k0_f9 k0_10 k0_f10 k0_11 k0_f11 k0_12 k0_f12 k0_13 k0_f13 k0_14 k0_f14 k0_15 k0_f15 k0_16 k0_f16 k0_17 k0_f17 k0_18 k0_f18); have k0_0 := k0.cell 0; have k0_f0 := k0.frozen 0; have k0_1 := k0.cell 1; have k0_f1 := k0.frozen 1; have k0_2 := k0.cell 2; have k0_f2 := k0.frozen 2; have k0_3 := k0.cell 3; have k0_f3 := k0.frozen 3; have k0_4 := k0.cell 4; have k0_f4 := k0.frozen 4; have k0_5 := k0.cell 5; have k0_f5 := k0.frozen 5; have k0_6 := k0.cell 6; have k0_f6 := k0.frozen 6; have k0_7 := k0.cell 7; have k0_f7 := k0.frozen 7; have k0_8 := k0.cell 8; have k0_f8 := k0.frozen 8; have k0_9 := k0.cell 9; have k0_f9 := k0.frozen 9; have k0_10 := k0.cell 10; have k0_f10 := k0.frozen 10; have k0_11 := k0.cell 11; have k0_f11 := k0.frozen 11; have k0_12 := k0.cell 12; have k0_f12 := k0.frozen 12; have k0_13 := k0.cell 13; have k0_f13 := k0.frozen 13; have k0_14 := k0.cell 14; have k0_f14 := k0.frozen 14; have k0_15 := k0.cell 15; have k0_f15 := k0.frozen 15; have k0_16 := k0.cell 16; have k0_f16 := k0.frozen 16; have k0_17 := k0.cell 17; have k0_f17 := k0.frozen 17; have k0_18 := k0.cell 18; have k0_f18 := k0.frozen 18; simp only [List.set_cons_zero, List.set_cons_succ, List.getElem?_cons_zero, List.getElem?_cons_succ] at k0_0 k0_1 k0_2 k0_3 k0_4 k0_5 k0_6 k0_7 k0_8 k0_9 k0_10 k0_11 k0_12 k0_13 k0_14 k0_15 k0_16 k0_17 k0_18; (try clear lt_k0); have lt_k0 := k0.lt
      replace hb1 : Below w.heap.size w x2 := hb1.step hx
      clear hx h3
      by_cases e3 : v3 = 0
      · subst e3
        have HC2 := HC.out
        rw [if_neg (by simp)] at HC2
        replace HC := hide HC2
        clear HC2
        go_wp2_with fail
        refine (h4 _).mono ?_; rintro e x3 ⟨rfl, hx⟩
        (try clear k0_0 k0_f0 k0_1 k0_f1 k0_2 k0_f2 k0_3 k0_f3 k0_4 k0_f4 k0_5 k0_f5 k0_6 k0_f6 k0_7 k0_f7 k0_8 k0_f8 k0_9 k0_f9 k0_10 k0_f10 k0_11 k0_f11 k0_12 k0_f12 k0_13 k0_f13 k0_14 k0_f14 k0_15 k0_f15 k0_16 k0_f16 k0_17 k0_f17 k0_18 k0_f18 lt_k0)
        replace hb1 : Below w.heap.size w x3 := hb1.step hx
        clear hx h4
        go_wp2
        go_ret
        exact ⟨ret_int HC.out.symm, hb1⟩
      · have hne : (v3 != 0) = true := by simpa using e3
        have hr : R = v3 := by rw [HC.out, if_pos e3]
        have HR := hide hr
        clear hr e3
        (try clear k0_0 k0_f0 k0_1 k0_f1 k0_2 k0_f2 k0_3 k0_f3 k0_4 k0_f4 k0_5 k0_f5 k0_6 k0_f6 k0_7 k0_f7 k0_8 k0_f8 k0_9 k0_f9 k0_10 k0_f10 k0_11 k0_f11 k0_12 k0_f12 k0_13 k0_f13 k0_14 k0_f14 k0_15 k0_f15 k0_16 k0_f16 k0_17 k0_f17 k0_18 k0_f18 lt_k0)
        go_wp2
        go_ret
        exact ⟨ret_int HR.out.symm, hb1⟩
    · have hne : (v2 != 0) = true := by simpa using e2
      have hr : R = v2 := by rw [HC.out, if_pos e2]
      have HR := hide hr
      clear hr e2
      (try clear k0_0 k0_f0 k0_1 k0_f1 k0_2 k0_f2 k0_3 k0_f3 k0_4 k0_f4 k0_5 k0_f5 k0_6 k0_f6 k0_7 k0_f7 k0_8 k0_f8 k0_9 k0_f9 k0_10 k0_f10 k0_11 k0_f11 k0_12 k0_f12 k0_13 k0_f13 k0_14 k0_f14 k0_15 k0_f15 k0_16 k0_f16 k0_17 k0_f17 k0_18 k0_f18 lt_k0)
      go_wp2
      go_ret
      exact ⟨ret_int HR.out.symm, hb1⟩
  · have hne : (v1 != 0) = true := by simpa using e1
    have hr : R = v1 := by rw [HC.out, if_pos e1]
    have HR := hide hr
    clear hr e1
    (try clear k0_0 k0_f0 k0_1 k0_f1 k0_2 k0_f2 k0_3 k0_f3 k0_4 k0_f4 k0_5 k0_f5 k0_6 k0_f6 k0_7 k0_f7 k0_8 k0_f8 k0_9 k0_f9 k0_10 k0_f10 k0_11 k0_f11 k0_12 k0_f12 k0_13 k0_f13 k0_14 k0_f14 k0_15 k0_f15 k0_16 k0_f16 k0_17 k0_f17 k0_18 k0_f18 lt_k0)
    go_wp2
    go_ret
    exact ⟨ret_int HR.out.symm, hb1⟩
set_option maxRecDepth 100000 in
theorem admit_Usual_any (w : World) : Calls Tryd.prog 26 #[] w fun e w' => e = .returned aUsual.V ∧ Below w.heap.size w w' := by
  go_enter Tryd.func26, Tryd.ntmps26
  go_upto_region 1 with fail
  generalize hV : World.alloc w _ = w1
  have hb1 : Below w.heap.size w w1 := by subst hV; (repeat (first | with_reducible exact Below.refl _ _ | with_reducible assumption | with_reducible refine Below.drew ?_ | with_reducible refine Below.drewN ?_ _ | with_reducible refine Below.alloc1 ?_ _ | with_reducible refine Below.setCell1 ?_ (by first | omega | (simp; done) | (simp; omega)) _ | with_reducible refine Below.step ?_ (by with_reducible assumption)))
  have k0 : Bk w1 w.heap.size 32 [.int .i64 0, .int .i64 0, .int .i64 0, .int .i64 0, .int .i64 0, .int .i64 0, .int .i64 0, .int .i64 0, .int .i64 0, .int .i64 0, .int .i64 0, .int .i64 0, .int .i64 0, .int .i64 0, .int .i64 0, .int .i64 0, .int .i64 0, .int .i64 0, .int .i64 0] := by subst hV; (repeat (first | with_reducible exact Bk.new' _ _ _ _ (by simp; done) | with_reducible assumption | with_reducible refine Bk.alloc ?_ _ | with_reducible refine Bk.drew ?_ | with_reducible refine Bk.drewN ?_ _ | with_reducible refine Bk.step ?_ (by with_reducible assumption) | with_reducible refine Bk.far ?_ (by first | omega | (simp; done) | (simp; omega)) _))
  clear hV
  go_wp2_with fail
  refine (level_Usual_any _).mono ?_; rintro e x0 ⟨rfl, hx⟩
  replace k0 := k0.step hx
  replace hb1 : Below w.heap.size w x0 := hb1.step hx
  clear hx
  go_wp2_with fail
  refine (jitter_Usual_any _).mono ?_; rintro e x1 ⟨rfl, hx⟩
  replace k0 := k0.step hx
  replace hb1 : Below w.heap.size w x1 := hb1.step hx
  clear hx
  go_wp2_with (first | (refine wpList_store_row rfl 32 _ _ rfl _ (acC 8 2 3 1 (u3 50 75 90) (u3 40 60 80) 5 uLo uHi).toArray rfl rfl _ _ k0 (by kernel_rfl) (by kernel_rfl) (by kernel_rfl) ?_))
  have k1 := k0.row (acC 8 2 3 1 (u3 50 75 90) (u3 40 60 80) 5 uLo uHi)
  refine bodyPost_ret (v := aUsual.V) ?_ rfl ⟨rfl, setRow_below hb1 (Nat.le_refl _) _⟩
  exact results_cell_row rfl _ _ w.heap.size _ _ (0, 0) _ rfl k1 Tryd.underlying32 rfl (by kernel_rfl)
theorem r13_in_any (n a b : Int) (w : World) :
    Calls Tryd.prog 64 #[.int .i64 n, .int .i64 a, .int .i64 b] w fun e w' => e = .returned (.bool (bIn n a b)) ∧ w = w' := by
  by_cases h1 : a ≤ n <;> by_cases h2 : n ≤ b
  all_goals
    go_enter Tryd.func64, Tryd.ntmps64
    go_wp2
    go_ret
    exact ⟨ret_bool (by simp [bIn, *]), rfl⟩
theorem r13_Check_any (b r : Int) (w : World) :
    Calls Tryd.prog 50 #[.agg #[.int .i64 b, .int .i64 r]] w fun e w' => e = .returned (.int .i64 (bCheck b r)) ∧ Below w.heap.size w w' := by
  cases h1 : bIn b 1 1000 <;> cases h2 : bIn r 0 1000
  all_goals
    go_enter Tryd.func50, Tryd.ntmps50
    go_wp2_with (go_at_call 64; refine (r13_in_any _ _ _ _).mono ?_; rintro e w' ⟨rfl, rfl⟩)
    go_ret
    exact ⟨ret_int (by simp [bCheck, bGood, h1, h2]), (Below.refl _ _).alloc (Nat.le_refl _) _⟩
theorem r16_in_any (n a b : Int) (w : World) :
    Calls Tryd.prog 65 #[.int .i64 n, .int .i64 a, .int .i64 b] w fun e w' => e = .returned (.bool (vIn n a b)) ∧ w = w' := by
  by_cases h1 : a ≤ n <;> by_cases h2 : n ≤ b
  all_goals
    go_enter Tryd.func65, Tryd.ntmps65
    go_wp2
    go_ret
    exact ⟨ret_bool (by simp [vIn, *]), rfl⟩
theorem r16_in_is {n a b : Int} {v : Bool} (h : vIn n a b = v) (w : World) :
    Calls Tryd.prog 65 #[.int .i64 n, .int .i64 a, .int .i64 b] w fun e w' => e = .returned (.bool v) ∧ w = w' := by
  subst h; exact r16_in_any n a b w
set_option maxHeartbeats 4000000 in
theorem r16_Check_any (up dn : Nat → Int) (hold : Int) (w : World) :
    Calls Tryd.prog 51 #[lcV up dn hold] w fun e w' => e = .returned (.int .i64 (vCheck up dn hold)) ∧ Below w.heap.size w w' := by
  go_enter Tryd.func51, Tryd.ntmps51
  go_wp2_with fail
  generalize hW : World.alloc w _ = w1
  have hb1 : Below w.heap.size w w1 := by subst hW; (repeat (first | with_reducible exact Below.refl _ _ | with_reducible assumption | with_reducible refine Below.drew ?_ | with_reducible refine Below.drewN ?_ _ | with_reducible refine Below.alloc1 ?_ _ | with_reducible refine Below.setCell1 ?_ (by first | omega | (simp; done) | (simp; omega)) _ | with_reducible refine Below.step ?_ (by with_reducible assumption)))
  have k0 : Bk w1 w.heap.size 39 (lcC up dn hold) := by subst hW; (repeat (first | with_reducible exact Bk.new' _ _ _ _ (by simp; done) | with_reducible assumption | with_reducible refine Bk.alloc ?_ _ | with_reducible refine Bk.drew ?_ | with_reducible refine Bk.drewN ?_ _ | with_reducible refine Bk.step ?_ (by with_reducible assumption) | with_reducible refine Bk.far ?_ (by first | omega | (simp; done) | (simp; omega)) _))
  have lk := k0.lt
  clear hW
  go_loopw [3] (fun i wr => ∃ k : Nat, k ≤ 3 ∧ i = .int .i64 k ∧ (∀ j, j < k → vOk1 up dn j = true) ∧ wr = w1) (fun i _ => 3 - (intOf i).toNat)
  case atStart => exact ⟨0, by omega, rfl, by omega, rfl⟩
  case round =>
    obtain ⟨k, hk, rfl, hok, rfl⟩ := hrel
    by_cases hlt : k < 3
    · have c1 := up_cell k0 hlt
      have c2 := dn_cell k0 hlt
      cases e1 : vIn (up k) 0 100 <;> cases e2 : vIn (dn k) 0 100
      case true.true =>
        have hok' : Hid (∀ j, j < k + 1 → vOk1 up dn j = true) := fun j hj => by
          rcases Nat.lt_or_ge j k with h | h
          · exact hok j h
          · obtain rfl : j = k := by omega
            simp [vOk1, e1, e2]
        clear hok
        go_wp2_with (go_at_call 65; (first | with_reducible refine (r16_in_is e1 _).mono ?_ | with_reducible refine (r16_in_is e2 _).mono ?_); rintro e w' ⟨rfl, rfl⟩)
        go_roundw
        case rel => exact ⟨k + 1, by omega, by go_num, hok'.out, by first | rfl | trivial⟩
        case measure => simp [intOf]; omega
      all_goals
        have hno : vOk1 up dn k = false := by simp [vOk1, e1, e2]
        have hc : Hid (vCheck up dn hold = 8) := by show _ = _; simp [vCheck, vLoads_f hlt hno]
        clear hno hok
        go_wp2_with (go_at_call 65; (first | with_reducible refine (r16_in_is e1 _).mono ?_ | with_reducible refine (r16_in_is e2 _).mono ?_); rintro e w' ⟨rfl, rfl⟩)
        go_ret
        exact ⟨ret_int hc.out.symm, hb1⟩
    · have hall : vLoads up dn = true := vLoads_t fun j hj => hok j (by omega)
      have c6 := k0.cell 6
      simp only [List.getElem?_cons_zero, List.getElem?_cons_succ] at c6
      cases e2 : vIn hold 0 1000
      · have hc : Hid (vCheck up dn hold = 8) := by show _ = _; simp [vCheck, e2]
        clear hok hall
        go_wp2_with (go_at_call 65; with_reducible refine (r16_in_is e2 _).mono ?_; rintro e w' ⟨rfl, rfl⟩)
        go_ret
        exact ⟨ret_int hc.out.symm, hb1⟩
      · have HC : Hid (vCheck up dn hold = if vOrder up dn then 0 else 10) := by show _ = _; simp [vCheck, hall, e2]
        have h10 := vLoads_of hall (k := 0) (by omega)
        clear hok hall
        go_wp2_with (go_at_call 65; with_reducible refine (r16_in_is e2 _).mono ?_; rintro e w' ⟨rfl, rfl⟩)
        obtain ⟨w1, rfl⟩ : ∃ w1 : World, w1 = wr := ⟨_, rfl⟩
        clear e2
        have HB := hide hb1
        clear hb1 c6 hlt
        go_loopw [4] (fun i wr => ∃ (k n : Nat), k ≤ 3 ∧ i = .int .i64 k ∧ Hid (∀ j, j < k → vOk2 up dn j = true) ∧ wr = w1.drewN n) (fun i _ => 3 - (intOf i).toNat)
        case atStart => exact ⟨0, 0, by omega, rfl, (fun j hj => by omega), rfl⟩
        case round =>
          obtain ⟨k, n, hk, rfl, hok, rfl⟩ := hrel
          by_cases hlt : k < 3
          · have c1 := up_cell k0 hlt
            have c2 := dn_cell k0 hlt
            have lk' : w.heap.size < (w1.drewN n).heap.size := lk
            have HN : Hid (vOk2 up dn k = false → vCheck up dn hold = 10) := fun h => by rw [HC.out, vOrder_f hlt h]; rfl
            have HO : Hid (vOk2 up dn k = true → ∀ j, j < k + 1 → vOk2 up dn j = true) := fun a j hj => by
              rcases Nat.lt_or_ge j k with h | h
              · exact hok.out j h
              · obtain rfl : j = k := by omega
                exact a
            by_cases a3 : up k < dn k
            · have a : Hid (vOk2 up dn k = false) := by show _ = false; simp only [vOk2, Bool.and_eq_false_iff, decide_eq_false_iff_not]; omega
              go_wp2_with fail
              go_quiet (fail)
              go_wp2_with fail
              go_ret
              exact ⟨ret_int (HN.out a.out).symm, (HB.out.drewN _).drewN _⟩
            · have d3 : decide (up k < dn k) = false := by simpa using a3
              replace a3 : dn k ≤ up k := by omega
              rcases Nat.eq_zero_or_pos k with k00 | k00
              · subst k00
                have d0 : decide ((0 : Int) < 0) = false := by decide
                have a : Hid (vOk2 up dn 0 = true) := by show _ = true; unfold vOk2; rw [show vPrev up 0 = 0 from rfl, show vPrev dn 0 = 0 from rfl]; simp only [Bool.and_eq_true, decide_eq_true_eq]; omega
                go_wp2_with fail
                go_quiet (fail)
                go_wp2_with fail
                go_roundw
                case rel => exact ⟨0 + 1, _, by omega, by go_num, HO.out a.out, rfl⟩
                case measure => simp [intOf]
              · obtain ⟨m, rfl⟩ : ∃ m, k = m + 1 := ⟨k - 1, by omega⟩
                have c3 := up_cell k0 (k := m) (by omega)
                have c4 := dn_cell k0 (k := m) (by omega)
                have b0 : 0 ≤ (m : Int) + 1 := by omega
                have b1 : (m : Int) + 1 < 3 := by omega
                have b2 : ((m : Int) + 1).toNat = m + 1 := by omega
                have d0 : decide ((0 : Int) < ((m + 1 : Nat) : Int)) = true := by simp <;> omega
                have w1 : IntKind.i64.wrap (((m + 1 : Nat) : Int) - 1) = m := by rw [IntWalk.i64_in _ (by omega)]; omega
                have w2 : IntKind.i64.wrap ((m : Int) + 1 - 1) = m := by rw [IntWalk.i64_in _ (by omega)]; omega
                by_cases a1 : up (m + 1) < up m
                · have a : Hid (vOk2 up dn (m + 1) = false) := by show _ = false; unfold vOk2; rw [show vPrev up (m + 1) = up m from rfl, show vPrev dn (m + 1) = dn m from rfl]; simp only [Bool.and_eq_false_iff, decide_eq_false_iff_not]; clear w1 w2; omega
                  go_wp2_with fail
                  go_quiet (fail)
                  go_wp2_with fail
                  go_ret
                  exact ⟨ret_int (HN.out a.out).symm, (HB.out.drewN _).drewN _⟩
                · have d1 : decide (up (m + 1) < up m) = false := by simpa using a1
                  by_cases a2 : dn (m + 1) < dn m
                  · have a : Hid (vOk2 up dn (m + 1) = false) := by show _ = false; unfold vOk2; rw [show vPrev up (m + 1) = up m from rfl, show vPrev dn (m + 1) = dn m from rfl]; simp only [Bool.and_eq_false_iff, decide_eq_false_iff_not]; clear w1 w2; omega
                    go_wp2_with fail
                    go_quiet (fail)
                    go_wp2_with fail
                    go_ret
                    exact ⟨ret_int (HN.out a.out).symm, (HB.out.drewN _).drewN _⟩
                  · have d2 : decide (dn (m + 1) < dn m) = false := by simpa using a2
                    have a : Hid (vOk2 up dn (m + 1) = true) := by show _ = true; unfold vOk2; rw [show vPrev up (m + 1) = up m from rfl, show vPrev dn (m + 1) = dn m from rfl]; simp only [Bool.and_eq_true, decide_eq_true_eq]; clear w1 w2; omega
                    go_wp2_with fail
                    go_quiet (fail)
                    go_wp2_with fail
                    go_roundw
                    case rel => exact ⟨m + 1 + 1, _, by omega, by go_num, HO.out a.out, rfl⟩
                    case measure => simp [intOf]; omega
          · have hc : Hid (vCheck up dn hold = 0) := by show _ = _; rw [HC.out, vOrder_t fun j hj => hok.out j (by omega)]; rfl
            go_wp2_with fail
            go_ret
            exact ⟨ret_int hc.out.symm, HB.out.drewN _⟩
set_option maxHeartbeats 4000000 in
theorem r17_Check_any (lo hi : Nat → Int) (w : World) :
    Calls Tryd.prog 52 #[confV lo hi] w fun e w' => e = .returned (.int .i64 (jCheck lo hi)) ∧ Below w.heap.size w w' := by
  go_enter Tryd.func52, Tryd.ntmps52
  go_wp2_with fail
  generalize hW : World.alloc w _ = w1
  have hb1 : Below w.heap.size w w1 := by subst hW; (repeat (first | with_reducible exact Below.refl _ _ | with_reducible assumption | with_reducible refine Below.drew ?_ | with_reducible refine Below.drewN ?_ _ | with_reducible refine Below.alloc1 ?_ _ | with_reducible refine Below.setCell1 ?_ (by first | omega | (simp; done) | (simp; omega)) _ | with_reducible refine Below.step ?_ (by with_reducible assumption)))
  have k0 : Bk w1 w.heap.size 40 (confC lo hi) := by subst hW; (repeat (first | with_reducible exact Bk.new' _ _ _ _ (by simp; done) | with_reducible assumption | with_reducible refine Bk.alloc ?_ _ | with_reducible refine Bk.drew ?_ | with_reducible refine Bk.drewN ?_ _ | with_reducible refine Bk.step ?_ (by with_reducible assumption) | with_reducible refine Bk.far ?_ (by first | omega | (simp; done) | (simp; omega)) _))
  have lk := k0.lt
  clear hW
  go_loopw [3] (fun i wr => ∃ k : Nat, k ≤ 4 ∧ i = .int .i64 k ∧ (∀ j, j < k → jOk1 lo hi j = true) ∧ wr = w1) (fun i _ => 4 - (intOf i).toNat)
  case atStart => exact ⟨0, by omega, rfl, by omega, rfl⟩
  case round =>
    obtain ⟨k, hk, rfl, hok, rfl⟩ := hrel
    by_cases hlt : k < 4
    · have c1 := lo_cell k0 hlt
      have c2 := hi_cell k0 hlt
      cases e1 : jOk1 lo hi k
      case true =>
        have hok' : ∀ j, j < k + 1 → jOk1 lo hi j = true := fun j hj => by
          rcases Nat.lt_or_ge j k with h | h
          · exact hok j h
          · obtain rfl : j = k := by omega
            exact e1
        have e2 := e1
        simp only [jOk1, Bool.and_eq_true] at e2
        have b1 := jIn_t e2.1
        have b2 := jIn_t e2.2
        have HO := hide hok'
        clear hok hok' e1 e2
        go_wp2_with fail
        go_roundw
        case rel => exact ⟨k + 1, by omega, by go_num, HO.out, by first | rfl | trivial⟩
        case measure => simp [intOf]; omega
      · have hc : jCheck lo hi = 8 := by
          unfold jCheck
          rw [if_neg]
          intro h
          simp only [Bool.and_eq_true] at h
          have h4 : k = 0 ∨ k = 1 ∨ k = 2 ∨ k = 3 := by omega
          rcases h4 with rfl | rfl | rfl | rfl <;> simp_all
        have HC := hide hc
        have e2 : lo k < 1 ∨ 10000 < lo k ∨ hi k < 1 ∨ 10000 < hi k := by
          simp only [jOk1, jIn, Bool.and_eq_false_iff, decide_eq_false_iff_not] at e1; omega
        clear hok e1 hc
        by_cases p1 : lo k < 1
        · clear e2; go_wp2_with fail
          go_ret
          exact ⟨ret_int HC.out.symm, hb1⟩
        · replace p1 : 1 ≤ lo k := by omega
          by_cases p2 : 10000 < lo k
          · clear e2; go_wp2_with fail
            go_ret
            exact ⟨ret_int HC.out.symm, hb1⟩
          · replace p2 : lo k ≤ 10000 := by omega
            by_cases p3 : hi k < 1
            · clear e2; go_wp2_with fail
              go_ret
              exact ⟨ret_int HC.out.symm, hb1⟩
            · replace p3 : 1 ≤ hi k := by omega
              replace p4 : 10000 < hi k := by omega
              clear e2
              go_wp2_with fail
              go_ret
              exact ⟨ret_int HC.out.symm, hb1⟩
    · have hall : (jOk1 lo hi 0 && jOk1 lo hi 1 && jOk1 lo hi 2 && jOk1 lo hi 3) = true := by simp [hok 0 (by omega), hok 1 (by omega), hok 2 (by omega), hok 3 (by omega)]
      have hcc : jCheck lo hi = if jOk2 lo hi 0 && jOk2 lo hi 1 && jOk2 lo hi 2 && jOk2 lo hi 3 then 0 else 10 := by unfold jCheck; rw [if_pos hall]
      have HCC := hide hcc
      have h10 : 1 ≤ lo 0 ∧ 1 ≤ hi 0 := by
        have e1 := hok 0 (by omega)
        simp only [jOk1, Bool.and_eq_true] at e1
        exact ⟨(jIn_t e1.1).1, (jIn_t e1.2).1⟩
      clear hcc hall
      go_wp2_with fail
      obtain ⟨w1, rfl⟩ : ∃ w1 : World, w1 = wr := ⟨_, rfl⟩
      go_loopw [4] (fun i wr => ∃ (k n : Nat), k ≤ 4 ∧ i = .int .i64 k ∧ (∀ j, j < k → jOk2 lo hi j = true) ∧ wr = w1.drewN n) (fun i _ => 4 - (intOf i).toNat)
      case atStart => exact ⟨0, 0, by omega, rfl, by omega, rfl⟩
      case round =>
        clear hok hlt hk
        obtain ⟨k, n, hk, rfl, hok, rfl⟩ := hrel
        by_cases hlt : k < 4
        · have c1 := lo_cell k0 hlt
          have c2 := hi_cell k0 hlt
          have lk' : w.heap.size < (w1.drewN n).heap.size := lk
          have HB := hide hb1
          have hno : jOk2 lo hi k = false → jCheck lo hi = 10 := fun h => by
            rw [HCC.out, if_neg]
            intro h'
            simp only [Bool.and_eq_true] at h'
            have h4 : k = 0 ∨ k = 1 ∨ k = 2 ∨ k = 3 := by omega
            rcases h4 with rfl | rfl | rfl | rfl <;> simp_all
          have hok' : jOk2 lo hi k = true → ∀ j, j < k + 1 → jOk2 lo hi j = true := fun a j hj => by
            rcases Nat.lt_or_ge j k with h | h
            · exact hok j h
            · obtain rfl : j = k := by omega
              exact a
          have HN := hide hno
          have HO := hide hok'
          clear hno hok' hok hb1
          by_cases a3 : hi k < lo k
          · have a : Hid (jOk2 lo hi k = false) := by show _ = false; simp only [jOk2, Bool.and_eq_false_iff, decide_eq_false_iff_not]; omega
            go_wp2_with fail
            go_quiet (fail)
            go_wp2_with fail
            go_ret
            exact ⟨ret_int (HN.out a.out).symm, (HB.out.drewN _).drewN _⟩
          · have d3 : decide (hi k < lo k) = false := by simpa using a3
            replace a3 : lo k ≤ hi k := by omega
            rcases Nat.eq_zero_or_pos k with k00 | k00
            · subst k00
              have d0 : decide ((0 : Int) < 0) = false := by decide
              have a : Hid (jOk2 lo hi 0 = true) := by show _ = true; unfold jOk2; rw [show jPrev lo 0 = 0 from rfl, show jPrev hi 0 = 0 from rfl]; simp only [Bool.and_eq_true, decide_eq_true_eq]; omega
              go_wp2_with fail
              go_quiet (fail)
              go_wp2_with fail
              go_roundw
              case rel => exact ⟨0 + 1, _, by omega, by go_num, HO.out a.out, rfl⟩
              case measure => simp [intOf]
            · obtain ⟨m, rfl⟩ : ∃ m, k = m + 1 := ⟨k - 1, by omega⟩
              have c3 := lo_cell k0 (k := m) (by omega)
              have c4 := hi_cell k0 (k := m) (by omega)
              have b0 : 0 ≤ (m : Int) + 1 := by omega
              have b1 : (m : Int) + 1 < 4 := by omega
              have b2 : ((m : Int) + 1).toNat = m + 1 := by omega
              have d0 : decide ((0 : Int) < ((m + 1 : Nat) : Int)) = true := by simp <;> omega
              have w1 : IntKind.i64.wrap (((m + 1 : Nat) : Int) - 1) = m := by rw [IntWalk.i64_in _ (by omega)]; omega
              have w2 : IntKind.i64.wrap ((m : Int) + 1 - 1) = m := by rw [IntWalk.i64_in _ (by omega)]; omega
              by_cases a1 : lo (m + 1) < lo m
              · have a : Hid (jOk2 lo hi (m + 1) = false) := by show _ = false; unfold jOk2; rw [show jPrev lo (m + 1) = lo m from rfl, show jPrev hi (m + 1) = hi m from rfl]; simp only [Bool.and_eq_false_iff, decide_eq_false_iff_not]; clear w1 w2; omega
                go_wp2_with fail
                go_quiet (fail)
                go_wp2_with fail
                go_ret
                exact ⟨ret_int (HN.out a.out).symm, (HB.out.drewN _).drewN _⟩
              · have d1 : decide (lo (m + 1) < lo m) = false := by simpa using a1
                by_cases a2 : hi (m + 1) < hi m
                · have a : Hid (jOk2 lo hi (m + 1) = false) := by show _ = false; unfold jOk2; rw [show jPrev lo (m + 1) = lo m from rfl, show jPrev hi (m + 1) = hi m from rfl]; simp only [Bool.and_eq_false_iff, decide_eq_false_iff_not]; clear w1 w2; omega
                  go_wp2_with fail
                  go_quiet (fail)
                  go_wp2_with fail
                  go_ret
                  exact ⟨ret_int (HN.out a.out).symm, (HB.out.drewN _).drewN _⟩
                · have d2 : decide (hi (m + 1) < hi m) = false := by simpa using a2
                  have a : Hid (jOk2 lo hi (m + 1) = true) := by show _ = true; unfold jOk2; rw [show jPrev lo (m + 1) = lo m from rfl, show jPrev hi (m + 1) = hi m from rfl]; simp only [Bool.and_eq_true, decide_eq_true_eq]; clear w1 w2; omega
                  go_wp2_with fail
                  go_quiet (fail)
                  go_wp2_with fail
                  go_roundw
                  case rel => exact ⟨m + 1 + 1, _, by omega, by go_num, HO.out a.out, rfl⟩
                  case measure => simp [intOf]; omega
        · have hc : jCheck lo hi = 0 := by rw [HCC.out, if_pos]; simp [hok 0 (by omega), hok 1 (by omega), hok 2 (by omega), hok 3 (by omega)]
          go_wp2_with fail
          go_ret
          exact ⟨ret_int hc.symm, hb1.drewN _⟩
set_option maxRecDepth 100000 in
set_option maxHeartbeats 8000000 in
theorem r18_Check_any (c : AC) (w : World) : Calls Tryd.prog 34 #[c.V] w fun e w' => e = .returned (.int .i64 (aCheck c)) ∧ Below w.heap.size w w' := by
  have h1 := fun W => r13_Check_any c.ab c.ar W
  have h2 := fun W => r13_Check_any c.eb c.er W
  have h3 := fun W => r16_Check_any c.up c.dn c.hold W
  have h4 := fun W => r17_Check_any c.lo c.hi W
  have HC := hide (show aCheck c = if bCheck c.ab c.ar ≠ 0 then bCheck c.ab c.ar else if bCheck c.eb c.er ≠ 0 then bCheck c.eb c.er else if vCheck c.up c.dn c.hold ≠ 0 then vCheck c.up c.dn c.hold else jCheck c.lo c.hi from rfl)
  generalize bCheck c.ab c.ar = v1 at *
  generalize bCheck c.eb c.er = v2 at *
  generalize vCheck c.up c.dn c.hold = v3 at *
  generalize jCheck c.lo c.hi = v4 at *
  unfold AC.V
  generalize aCheck c = R at *
  obtain ⟨ab, ar, eb, er, up, dn, hold, lo, hi⟩ := c
  dsimp only at *
  go_enter Tryd.func34, Tryd.ntmps34
  go_upto_region 1 with fail
  generalize hV : World.alloc w _ = w1
  have hb1 : Below w.heap.size w w1 := by subst hV; (repeat (first | with_reducible exact Below.refl _ _ | with_reducible assumption | with_reducible refine Below.drew ?_ | with_reducible refine Below.drewN ?_ _ | with_reducible refine Below.alloc1 ?_ _ | with_reducible refine Below.setCell1 ?_ (by first | omega | (simp; done) | (simp; omega)) _ | with_reducible refine Below.step ?_ (by with_reducible assumption)))
  have k0 : Bk w1 w.heap.size 42 (acC ab ar eb er up dn hold lo hi) := by subst hV; (repeat (first | with_reducible exact Bk.new' _ _ _ _ (by simp; done) | with_reducible assumption | with_reducible refine Bk.alloc ?_ _ | with_reducible refine Bk.drew ?_ | with_reducible refine Bk.drewN ?_ _ | with_reducible refine Bk.step ?_ (by with_reducible assumption) | with_reducible refine Bk.far ?_ (by first | omega | (simp; done) | (simp; omega)) _))
  clear hV
  have k0_0 := k0.cell 0; have k0_f0 := k0.frozen 0; have k0_1 := k0.cell 1; have k0_f1 := k0.frozen 1; have k0_2 := k0.cell 2; have k0_f2 := k0.frozen 2; have k0_3 := k0.cell 3; have k0_f3 := k0.frozen 3; have k0_4 := k0.cell 4; have k0_f4 := k0.frozen 4; have k0_5 := k0.cell 5; have k0_f5 := k0.frozen 5; have k0_6 := k0.cell 6; have k0_f6 := k0.frozen 6; have k0_7 := k0.cell 7; have k0_f7 := k0.frozen 7; have k0_8 := k0.cell 8; have k0_f8 := k0.frozen 8; have k0_9 := k0.cell 9; have k0_f9 := k0.frozen 9; have k0_10 := k0.cell 10; have k0_f10 := k0.frozen 10; have k0_11 := k0.cell 11; have k0_f11 := k0.frozen 11; have k0_12 := k0.cell 12; have k0_f12 := k0.frozen 12; have k0_13 := k0.cell 13; have k0_f13 := k0.frozen 13; have k0_14 := k0.cell 14; have k0_f14 := k0.frozen 14; have k0_15 := k0.cell 15; have k0_f15 := k0.frozen 15; have k0_16 := k0.cell 16; have k0_f16 := k0.frozen 16; have k0_17 := k0.cell 17; have k0_f17 := k0.frozen 17; have k0_18 := k0.cell 18; have k0_f18 := k0.frozen 18; simp only [List.set_cons_zero, List.set_cons_succ, List.getElem?_cons_zero, List.getElem?_cons_succ] at k0_0 k0_1 k0_2 k0_3 k0_4 k0_5 k0_6 k0_7 k0_8 k0_9 k0_10 k0_11 k0_12 k0_13 k0_14 k0_15 k0_16 k0_17 k0_18; have lt_k0 := k0.lt
  refine wp_region_m [(2, only (.int .i64 v1)), (5, only (.int .i64 v2)), (8, only (.int .i64 v3)), (11, only (.int .i64 v4)), (12, RowAt 4 (ints [v1, v2, v3, v4]))] (by kernel_rfl) (by kernel_rfl) (by kernel_rfl) (by kernel_rfl) (sts_cons (sts_only _) (sts_cons (sts_only _) (sts_cons (sts_only _) (sts_cons (sts_only _) (sts_cons (sts_row _ _) sts_nil))))) (fun kq => ?_); (try dsimp only [List.append])
  (repeat (refine wpM_via (by kernel_rfl) ?_; go_big_quiet_step (fail); refine wpQuiet_nil ?_))
  (refine wpM_only _ (.int .i64 v1) (by kernel_rfl) (by kernel_rfl) rfl (later_some _) ?_ ?_; (focus (intro x hx hk; obtain ⟨px, rfl⟩ := hx; go_simp; (first | with_reducible refine mUpon_enter ?_ | with_reducible refine mUpon_value ?_); go_at_call 50; exact (h1 _).mo)); intro K hK; go_big_quiet_op; refine hK _ ?_; clear hK K)
  (repeat (refine wpM_via (by kernel_rfl) ?_; go_big_quiet_step (fail); refine wpQuiet_nil ?_))
  (refine wpM_only _ (.int .i64 v2) (by kernel_rfl) (by kernel_rfl) rfl (later_some _) ?_ ?_; (focus (intro x hx hk; obtain ⟨px, rfl⟩ := hx; go_simp; (first | with_reducible refine mUpon_enter ?_ | with_reducible refine mUpon_value ?_); go_at_call 50; exact (h2 _).mo)); intro K hK; go_big_quiet_op; refine hK _ ?_; clear hK K)
  (repeat (refine wpM_via (by kernel_rfl) ?_; go_big_quiet_step (fail); refine wpQuiet_nil ?_))
  (refine wpM_only _ (.int .i64 v3) (by kernel_rfl) (by kernel_rfl) rfl (later_some _) ?_ ?_; (focus (intro x hx hk; obtain ⟨px, rfl⟩ := hx; go_simp; (first | with_reducible refine mUpon_enter ?_ | with_reducible refine mUpon_value ?_); go_at_call 51; exact (h3 _).mo)); intro K hK; go_big_quiet_op; refine hK _ ?_; clear hK K)
  (repeat (refine wpM_via (by kernel_rfl) ?_; go_big_quiet_step (fail); refine wpQuiet_nil ?_))
  (refine wpM_only _ (.int .i64 v4) (by kernel_rfl) (by kernel_rfl) rfl (later_some _) ?_ ?_; (focus (intro x hx hk; obtain ⟨px, rfl⟩ := hx; go_simp; (first | with_reducible refine mUpon_enter ?_ | with_reducible refine mUpon_value ?_); go_at_call 52; exact (h4 _).mo)); intro K hK; go_big_quiet_op; refine hK _ ?_; clear hK K)
  (repeat (refine wpM_via (by kernel_rfl) ?_; go_big_quiet_step (fail); refine wpQuiet_nil ?_))
  (refine wpM_spec _ (RowAt 4 (ints [v1, v2, v3, v4])) (by kernel_rfl) (by kernel_rfl) rfl (later_some _) ?_ ?_; (focus (intro x hx hk; obtain ⟨px, rfl⟩ := hx; go_simp; (first | with_reducible refine mUpon_enter ?_ | with_reducible refine mUpon_value ?_); exact row_new (by simp [Go.Sort.grow]) rfl)); intro v hv K hK; obtain ⟨A, cA, rfl⟩ := hv; go_big_quiet_op; refine hK _ ?_; clear hK K)
  (repeat (refine wpM_via (by kernel_rfl) ?_; go_big_quiet_step (fail); refine wpQuiet_nil ?_))
  refine wpM_nil ?_; intro wq hwq hfq; have hbq := below_of_class hwq; clear hwq kq; (try dsimp only [List.drop])
  have hrow := row_of hfq.1
  (try clear k0_0 k0_f0 k0_1 k0_f1 k0_2 k0_f2 k0_3 k0_f3 k0_4 k0_f4 k0_5 k0_f5 k0_6 k0_f6 k0_7 k0_f7 k0_8 k0_f8 k0_9 k0_f9 k0_10 k0_f10 k0_11 k0_f11 k0_12 k0_f12 k0_13 k0_f13 k0_14 k0_f14 k0_15 k0_f15 k0_16 k0_f16 k0_17 k0_f17 k0_18 k0_f18 lt_k0)
  replace hb1 : Below w.heap.size w wq := hb1.step hbq
  clear hfq hbq k0 h1 h2 h3 h4
  obtain ⟨ad, rfl, hab, hcs⟩ := hrow (by simp)
  have c0 := hcs 0 (.int .i64 v1) rfl
  have c1 := hcs 1 (.int .i64 v2) rfl
  have c2 := hcs 2 (.int .i64 v3) rfl
  have c3 := hcs 3 (.int .i64 v4) rfl
  have LL : (ints [v1, v2, v3, v4]).length = 4 := rfl
  clear hcs hrow LL
  obtain ⟨f, hf⟩ : ∃ f : Nat → Int, f = fun j => if j = 0 then v1 else if j = 1 then v2 else if j = 2 then v3 else v4 := ⟨_, rfl⟩
  have hcell : ∀ j, j < 4 → wq.cell? (ad.add j) = some (.int .i64 (f j)) := by
    intro j hj
    have : j = 0 ∨ j = 1 ∨ j = 2 ∨ j = 3 := by omega
    rcases this with rfl | rfl | rfl | rfl <;> simp only [hf] <;> assumption
  have HF := hide (show R = if f 0 ≠ 0 then f 0 else if f 1 ≠ 0 then f 1 else if f 2 ≠ 0 then f 2 else f 3 from by rw [HC.out, hf]; rfl)
  clear hf c0 c1 c2 c3 HC
  go_wp2_with fail
  go_loopw [4] (fun iv wr => ∃ k : Nat, k ≤ 4 ∧ iv = .int .i64 k ∧ Hid (∀ j, j < k → f j = 0) ∧ wr = wq) (fun iv _ => 4 - (intOf iv).toNat)
  case atStart => exact ⟨0, by omega, rfl, fun j hj => absurd hj (Nat.not_lt_zero _), rfl⟩
  case round =>
    obtain ⟨k, hk, rfl, HZ, rfl⟩ := hrel
    by_cases hlt : k < 4
    · have hki : (k : Int) < 4 := by omega
      have ck := hcell k hlt
      clear hcell
      by_cases hz : f k = 0
      · have HZ2 : Hid (∀ j, j < k + 1 → f j = 0) := fun j hj => by
          rcases Nat.lt_or_eq_of_le (Nat.le_of_lt_succ hj) with h | h
          · exact HZ.out j h
          · subst h; exact hz
        rw [hz] at ck
        clear hz
        go_wp2
        go_roundw
        case rel => exact ⟨k + 1, by omega, by go_num, HZ2, by trivial⟩
        case measure => simp [intOf]; omega
      · have hr : R = f k := by
          rw [HF.out]
          have h := HZ.out
          have : k = 0 ∨ k = 1 ∨ k = 2 ∨ k = 3 := by omega
          rcases this with rfl | rfl | rfl | rfl
          · rw [if_pos hz]
          · rw [if_neg (by simp [h 0 (by omega)]), if_pos hz]
          · rw [if_neg (by simp [h 0 (by omega)]), if_neg (by simp [h 1 (by omega)]), if_pos hz]
          · rw [if_neg (by simp [h 0 (by omega)]), if_neg (by simp [h 1 (by omega)]), if_neg (by simp [h 2 (by omega)])]
        have hne : (f k != 0) = true := by simpa using hz
        have HR := hide hr
        clear hr
        generalize f k = fk at *
        clear hz
        go_wp2
        go_ret
        exact ⟨ret_int HR.out.symm, hb1⟩
    · clear hcell
      have hk4 : k = 4 := by omega
      have hr : R = 0 := by
        have h := HZ.out
        rw [HF.out, if_neg (by simp [h 0 (by omega)]), if_neg (by simp [h 1 (by omega)]), if_neg (by simp [h 2 (by omega)]), h 3 (by omega)]
      have hki : (4 : Int) ≤ (k : Int) := by omega
      have HR := hide hr
      clear hr hk4
      go_wp2
      go_ret
      exact ⟨ret_int HR.out.symm, hb1⟩
set_option maxRecDepth 100000 in
set_option maxHeartbeats 8000000 in
theorem law18_Conf_any (c : AC) (w : World) : Calls Tryd.prog 20 #[c.V] w fun e w' => e = .returned c.V ∧ Below w.heap.size w w' := by
  unfold AC.V
  obtain ⟨ab, ar, eb, er, up, dn, hold, lo, hi⟩ := c
  dsimp only
  go_enter Tryd.func20, Tryd.ntmps20
  go_upto_region 1 with fail
  generalize hV : World.alloc (World.alloc w _) _ = w1
  have hb1 : Below w.heap.size w w1 := by subst hV; (repeat (first | with_reducible exact Below.refl _ _ | with_reducible assumption | with_reducible refine Below.drew ?_ | with_reducible refine Below.drewN ?_ _ | with_reducible refine Below.alloc1 ?_ _ | with_reducible refine Below.setCell1 ?_ (by first | omega | (simp; done) | (simp; omega)) _ | with_reducible refine Below.step ?_ (by with_reducible assumption)))
  have k0 : Bk w1 w.heap.size 42 (acC ab ar eb er up dn hold lo hi) := by subst hV; (repeat (first | with_reducible exact Bk.new' _ _ _ _ (by simp; done) | with_reducible assumption | with_reducible refine Bk.alloc ?_ _ | with_reducible refine Bk.drew ?_ | with_reducible refine Bk.drewN ?_ _ | with_reducible refine Bk.step ?_ (by with_reducible assumption) | with_reducible refine Bk.far ?_ (by first | omega | (simp; done) | (simp; omega)) _))
  have k1 : Bk w1 (w.heap.size + 1) 32 [.int .i64 0, .int .i64 0, .int .i64 0, .int .i64 0, .int .i64 0, .int .i64 0, .int .i64 0, .int .i64 0, .int .i64 0, .int .i64 0, .int .i64 0, .int .i64 0, .int .i64 0, .int .i64 0, .int .i64 0, .int .i64 0, .int .i64 0, .int .i64 0, .int .i64 0] := by subst hV; (repeat (first | with_reducible exact Bk.new' _ _ _ _ (by simp; done) | with_reducible assumption | with_reducible refine Bk.alloc ?_ _ | with_reducible refine Bk.drew ?_ | with_reducible refine Bk.drewN ?_ _ | with_reducible refine Bk.step ?_ (by with_reducible assumption) | with_reducible refine Bk.far ?_ (by first | omega | (simp; done) | (simp; omega)) _))
  clear hV
  have k0_0 := k0.cell 0; have k0_f0 := k0.frozen 0; have k0_1 := k0.cell 1; have k0_f1 := k0.frozen 1; have k0_2 := k0.cell 2; have k0_f2 := k0.frozen 2; have k0_3 := k0.cell 3; have k0_f3 := k0.frozen 3; have k0_4 := k0.cell 4; have k0_f4 := k0.frozen 4; have k0_5 := k0.cell 5; have k0_f5 := k0.frozen 5; have k0_6 := k0.cell 6; have k0_f6 := k0.frozen 6; have k0_7 := k0.cell 7; have k0_f7 := k0.frozen 7; have k0_8 := k0.cell 8; have k0_f8 := k0.frozen 8; have k0_9 := k0.cell 9; have k0_f9 := k0.frozen 9; have k0_10 := k0.cell 10; have k0_f10 := k0.frozen 10; have k0_11 := k0.cell 11; have k0_f11 := k0.frozen 11; have k0_12 := k0.cell 12; have k0_f12 := k0.frozen 12; have k0_13 := k0.cell 13; have k0_f13 := k0.frozen 13; have k0_14 := k0.cell 14; have k0_f14 := k0.frozen 14; have k0_15 := k0.cell 15; have k0_f15 := k0.frozen 15; have k0_16 := k0.cell 16; have k0_f16 := k0.frozen 16; have k0_17 := k0.cell 17; have k0_f17 := k0.frozen 17; have k0_18 := k0.cell 18; have k0_f18 := k0.frozen 18; simp only [List.set_cons_zero, List.set_cons_succ, List.getElem?_cons_zero, List.getElem?_cons_succ] at k0_0 k0_1 k0_2 k0_3 k0_4 k0_5 k0_6 k0_7 k0_8 k0_9 k0_10 k0_11 k0_12 k0_13 k0_14 k0_15 k0_16 k0_17 k0_18; have lt_k0 := k0.lt
  go_wp2_with (first | (refine wpList_store_row rfl 32 _ _ rfl _ (acC ab ar eb er up dn hold lo hi).toArray rfl rfl _ _ k1 (by kernel_rfl) (by kernel_rfl) (by kernel_rfl) ?_))
  have r2 := k1.row (acC ab ar eb er up dn hold lo hi)
  refine bodyPost_ret (v := .agg (acC ab ar eb er up dn hold lo hi).toArray) ?_ rfl ?_
  · exact results_cell_row rfl _ _ _ _ _ (0, 0) _ rfl r2 Tryd.underlying32 rfl (by kernel_rfl)
  · exact ⟨rfl, setRow_below hb1 (by omega) _⟩
end Go.Proofs.YtfbllioegeadfaaDoor
