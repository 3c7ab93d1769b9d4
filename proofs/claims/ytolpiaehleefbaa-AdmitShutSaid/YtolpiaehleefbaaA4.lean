import Derived.Test.YtolpiaehleefbaaRows
import Derived.Test.YtolpiaehleefbaaA0
import Derived.OwnWalk
/- Contracts of package level: each function computes the plain function of the same name below. -/
namespace Go.Proofs.Ytolpiaehleefbaa
open Go.RowKit
set_option linter.unusedSimpArgs false
set_option linter.unusedVariables false

/-! The plain functions. -/
def vIn (n a b : Int) : Bool := decide (a ≤ n) && decide (n ≤ b)
theorem vIn_t {n a b : Int} (h : vIn n a b = true) : a ≤ n ∧ n ≤ b := by simpa [vIn] using h
theorem vIn_f {n a b : Int} (h : vIn n a b = false) : n < a ∨ b < n := by simp [vIn] at h; omega
def vOk1 (up dn : Nat → Int) (k : Nat) : Bool := vIn (up k) 0 100 && vIn (dn k) 0 100
def vPrev (f : Nat → Int) : Nat → Int
  | 0 => 0
  | k + 1 => f k
def vOk2 (up dn : Nat → Int) (k : Nat) : Bool := decide (vPrev up k ≤ up k) && decide (vPrev dn k ≤ dn k) && decide (dn k ≤ up k)
def vLoads (up dn : Nat → Int) : Bool := vOk1 up dn 0 && vOk1 up dn 1 && vOk1 up dn 2
def vOrder (up dn : Nat → Int) : Bool := vOk2 up dn 0 && vOk2 up dn 1 && vOk2 up dn 2
def vCheck (up dn : Nat → Int) (hold : Int) : Int := if vLoads up dn && vIn hold 0 1000 then (if vOrder up dn then 0 else 10) else 8
def vFine (l s w : Int) : Bool := vIn l 0 3 && vIn s 0 1099511627776 && vIn w (-1) 1099511627776
def vHeld (n a b : Int) : Int := min (max n a) b
/-- the level that a load asks for, from one on (at most f steps) -/
def vAsk (up : Nat → Int) (load : Int) : Nat → Nat → Nat
  | 0, l => l
  | f + 1, l => if l < 3 ∧ up l ≤ load then vAsk up load f (l + 1) else l
def vAsked (up : Nat → Int) (load : Int) (l : Nat) : Nat := vAsk up load (3 - l) l
theorem vAsked_step {up : Nat → Int} {load : Int} {l : Nat} (h : l < 3) (hu : up l ≤ load) : vAsked up load l = vAsked up load (l + 1) := by
  unfold vAsked; rw [show 3 - l = (3 - (l + 1)) + 1 by omega, vAsk, if_pos ⟨h, hu⟩]
theorem vAsked_stop {up : Nat → Int} {load : Int} {l : Nat} (hu : load < up l) : vAsked up load l = l := by
  unfold vAsked
  cases h : 3 - l with
  | zero => rfl
  | succ f => rw [vAsk, if_neg (by omega)]
theorem vAsked_top {up : Nat → Int} {load : Int} {l : Nat} (h : 3 ≤ l) : vAsked up load l = l := by
  unfold vAsked; rw [show 3 - l = 0 by omega]; rfl
theorem vAsked_le (up : Nat → Int) (load : Int) (l : Nat) : l ≤ vAsked up load l ∧ (l ≤ 3 → vAsked up load l ≤ 3) := by
  unfold vAsked
  suffices h : ∀ f m, m + f = max m 3 ∨ m + f ≤ 3 → m ≤ vAsk up load f m ∧ (m ≤ 3 → vAsk up load f m ≤ 3) by
    exact h _ _ (by omega)
  intro f
  induction f with
  | zero => intro m _; exact ⟨Nat.le_refl _, fun h => h⟩
  | succ f ih =>
    intro m hm
    unfold vAsk
    split
    · rename_i hc
      have := ih (m + 1) (by omega)
      exact ⟨by omega, fun h => this.2 (by omega)⟩
    · exact ⟨Nat.le_refl _, fun h => h⟩
/-- level, since, low behind a load that may be, of a state that may be -/
def vStep1 (up dn : Nat → Int) (hold : Int) (l : Nat) (s w load now : Int) : Int × Int × Int :=
  if l < vAsked up load l then (vAsked up load l, now, -1)
  else if l = 0 ∨ dn (l - 1) ≤ load then (l, s, -1)
  else if now - (if w = -1 then now else w) < hold then (l, s, if w = -1 then now else w)
  else (l - 1, now, -1)
def vMay (up dn : Nat → Int) (hold l s w : Int) : Bool := (vCheck up dn hold == 0) && vFine l s w
def vStep (up dn : Nat → Int) (hold l s w load now : Int) : Int × Int × Int :=
  if vMay up dn hold l s w then vStep1 up dn hold l.toNat s w (vHeld load 0 100) (vHeld now (max s w) 1099511627776) else (l, s, w)
abbrev lcV (up dn : Nat → Int) (hold : Int) : Value := .agg #[.int .i64 (up 0), .int .i64 (up 1), .int .i64 (up 2), .int .i64 (dn 0), .int .i64 (dn 1), .int .i64 (dn 2), .int .i64 hold]
abbrev lcC (up dn : Nat → Int) (hold : Int) : List Value := [.int .i64 (up 0), .int .i64 (up 1), .int .i64 (up 2), .int .i64 (dn 0), .int .i64 (dn 1), .int .i64 (dn 2), .int .i64 hold]
abbrev lsV (l s w : Int) : Value := .agg #[.int .i64 l, .int .i64 s, .int .i64 w]
abbrev lsC (l s w : Int) : List Value := [.int .i64 l, .int .i64 s, .int .i64 w]
theorem up_cell {w : World} {g : Nat} {t : TypeId} {up dn : Nat → Int} {hold : Int} (h : Bk w g t (lcC up dn hold)) {k : Nat} (hk : k < 3) : w.cell? ⟨g, k, none⟩ = some (.int .i64 (up k)) := by
  rw [h.cell]
  match k, hk with
  | 0, _ => rfl
  | 1, _ => rfl
  | 2, _ => rfl
theorem dn_cell {w : World} {g : Nat} {t : TypeId} {up dn : Nat → Int} {hold : Int} (h : Bk w g t (lcC up dn hold)) {k : Nat} (hk : k < 3) : w.cell? ⟨g, 3 + k, none⟩ = some (.int .i64 (dn k)) := by
  rw [h.cell]
  match k, hk with
  | 0, _ => rfl
  | 1, _ => rfl
  | 2, _ => rfl
theorem three {P : Nat → Prop} (h : ∀ k, k < 3 → P k) : P 0 ∧ P 1 ∧ P 2 := ⟨h 0 (by omega), h 1 (by omega), h 2 (by omega)⟩
theorem vLoads_t {up dn : Nat → Int} (h : ∀ k, k < 3 → vOk1 up dn k = true) : vLoads up dn = true := by
  simp [vLoads, h 0 (by omega), h 1 (by omega), h 2 (by omega)]
theorem vLoads_f {up dn : Nat → Int} {k : Nat} (hk : k < 3) (h : vOk1 up dn k = false) : vLoads up dn = false := by
  have h4 : k = 0 ∨ k = 1 ∨ k = 2 := by omega
  rcases h4 with rfl | rfl | rfl <;> simp [vLoads, h]
theorem vOrder_t {up dn : Nat → Int} (h : ∀ k, k < 3 → vOk2 up dn k = true) : vOrder up dn = true := by
  simp [vOrder, h 0 (by omega), h 1 (by omega), h 2 (by omega)]
theorem vOrder_f {up dn : Nat → Int} {k : Nat} (hk : k < 3) (h : vOk2 up dn k = false) : vOrder up dn = false := by
  have h4 : k = 0 ∨ k = 1 ∨ k = 2 := by omega
  rcases h4 with rfl | rfl | rfl <;> simp [vOrder, h]
theorem vLoads_of {up dn : Nat → Int} (h : vLoads up dn = true) {k : Nat} (hk : k < 3) : (0 ≤ up k ∧ up k ≤ 100) ∧ 0 ≤ dn k ∧ dn k ≤ 100 := by
  simp only [vLoads, vOk1, Bool.and_eq_true] at h
  have h4 : k = 0 ∨ k = 1 ∨ k = 2 := by omega
  rcases h4 with rfl | rfl | rfl
  · exact ⟨vIn_t h.1.1.1, vIn_t h.1.1.2⟩
  · exact ⟨vIn_t h.1.2.1, vIn_t h.1.2.2⟩
  · exact ⟨vIn_t h.2.1, vIn_t h.2.2⟩
theorem vCheck_cases (up dn : Nat → Int) (hold : Int) : vCheck up dn hold = 0 ∨ vCheck up dn hold = 8 ∨ vCheck up dn hold = 10 := by
  unfold vCheck; split <;> (try split) <;> simp
theorem vCheck_t {up dn : Nat → Int} {hold : Int} (h : vCheck up dn hold = 0) : (vLoads up dn = true ∧ 0 ≤ hold ∧ hold ≤ 1000) ∧ vOrder up dn = true := by
  unfold vCheck at h
  split at h
  · rename_i h1
    split at h
    · rename_i h2
      simp only [Bool.and_eq_true] at h1
      exact ⟨⟨h1.1, vIn_t h1.2⟩, h2⟩
    · omega
  · omega
theorem vFine_t {l s w : Int} (h : vFine l s w = true) : (0 ≤ l ∧ l ≤ 3) ∧ (0 ≤ s ∧ s ≤ 1099511627776) ∧ -1 ≤ w ∧ w ≤ 1099511627776 := by
  simp only [vFine, Bool.and_eq_true] at h; exact ⟨vIn_t h.1.1, vIn_t h.1.2, vIn_t h.2⟩

theorem level_in_any (n a b : Int) (w : World) :
    Calls Try.prog 88 #[.int .i64 n, .int .i64 a, .int .i64 b] w fun e w' => e = .returned (.bool (vIn n a b)) ∧ w = w' := by
  by_cases h1 : a ≤ n <;> by_cases h2 : n ≤ b
  all_goals
    go_enter Try.func88, Try.ntmps88
    go_wp2
    go_ret
    exact ⟨ret_bool (by simp [vIn, *]), rfl⟩
theorem level_in_is {n a b : Int} {v : Bool} (h : vIn n a b = v) (w : World) :
    Calls Try.prog 88 #[.int .i64 n, .int .i64 a, .int .i64 b] w fun e w' => e = .returned (.bool v) ∧ w = w' := by
  subst h; exact level_in_any n a b w
theorem level_held_any (n a b : Int) (w : World) :
    Calls Try.prog 90 #[.int .i64 n, .int .i64 a, .int .i64 b] w fun e w' => e = .returned (.int .i64 (vHeld n a b)) ∧ w = w' := by
  go_enter Try.func90, Try.ntmps90
  go_wp2
  all_goals go_ret
  all_goals exact ⟨ret_int (by unfold vHeld; omega), rfl⟩

theorem idx3_0 (f : Nat → Int) (w : World) : (Instr.index 24 (.agg #[.int .i64 (f 0), .int .i64 (f 1), .int .i64 (f 2)]) (.int .i64 ((0 : Nat) : Int))).run Try.prog w = .ok (.int .i64 (f 0)) w := by kernel_rfl
theorem idx3_1 (f : Nat → Int) (w : World) : (Instr.index 24 (.agg #[.int .i64 (f 0), .int .i64 (f 1), .int .i64 (f 2)]) (.int .i64 ((1 : Nat) : Int))).run Try.prog w = .ok (.int .i64 (f 1)) w := by kernel_rfl
theorem idx3_2 (f : Nat → Int) (w : World) : (Instr.index 24 (.agg #[.int .i64 (f 0), .int .i64 (f 1), .int .i64 (f 2)]) (.int .i64 ((2 : Nat) : Int))).run Try.prog w = .ok (.int .i64 (f 2)) w := by kernel_rfl
theorem idx3 (f : Nat → Int) {k : Nat} (hk : k < 3) (w : World) : (Instr.index 24 (.agg #[.int .i64 (f 0), .int .i64 (f 1), .int .i64 (f 2)]) (.int .i64 k)).run Try.prog w = .ok (.int .i64 (f k)) w := by
  have h : k = 0 ∨ k = 1 ∨ k = 2 := by omega
  rcases h with rfl | rfl | rfl
  · exact idx3_0 f w
  · exact idx3_1 f w
  · exact idx3_2 f w

set_option maxHeartbeats 1000000 in
theorem level_loads_any (up dn : Nat → Int) (hold : Int) (w : World) :
    Calls Try.prog 97 #[lcV up dn hold] w fun e w' => e = .returned (.bool (vLoads up dn)) ∧ Below w.heap.size w w' := by
  go_enter Try.func97, Try.ntmps97
  go_wp2_with fail
  generalize hW : World.alloc w _ = w1
  have hb1 : Below w.heap.size w w1 := by subst hW; (repeat (first | with_reducible exact Below.refl _ _ | with_reducible assumption | with_reducible refine Below.drew ?_ | with_reducible refine Below.drewN ?_ _ | with_reducible refine Below.alloc1 ?_ _ | with_reducible refine Below.setCell1 ?_ (by first | omega | (simp; done) | (simp; omega)) _ | with_reducible refine Below.step ?_ (by with_reducible assumption)))
  have k0 : Bk w1 w.heap.size 41 (lcC up dn hold) := by subst hW; (repeat (first | with_reducible exact Bk.new' _ _ _ _ (by simp; done) | with_reducible assumption | with_reducible refine Bk.alloc ?_ _ | with_reducible refine Bk.drew ?_ | with_reducible refine Bk.drewN ?_ _ | with_reducible refine Bk.step ?_ (by with_reducible assumption) | with_reducible refine Bk.far ?_ (by first | omega | (simp; done) | (simp; omega)) _))
  have lk := k0.lt
  clear hW
  have k0_0 := k0.cell 0; have k0_f0 := k0.frozen 0; have k0_1 := k0.cell 1; have k0_f1 := k0.frozen 1; have k0_2 := k0.cell 2; have k0_f2 := k0.frozen 2; have k0_3 := k0.cell 3; have k0_f3 := k0.frozen 3; have k0_4 := k0.cell 4; have k0_f4 := k0.frozen 4; have k0_5 := k0.cell 5; have k0_f5 := k0.frozen 5; have k0_6 := k0.cell 6; have k0_f6 := k0.frozen 6; simp only [List.set_cons_zero, List.set_cons_succ, List.getElem?_cons_zero, List.getElem?_cons_succ] at k0_0 k0_1 k0_2 k0_3 k0_4 k0_5 k0_6
  go_loopw [7] (fun i wr => ∃ k : Nat, k ≤ 3 ∧ i = .int .i64 k ∧ (∀ j, j < k → vOk1 up dn j = true) ∧ wr = w1) (fun i _ => 3 - (intOf i).toNat)
  case atStart => exact ⟨0, by omega, rfl, by omega, rfl⟩
  case round =>
    obtain ⟨k, hk, rfl, hok, rfl⟩ := hrel
    by_cases hlt : k < 3
    · have c2 := dn_cell k0 hlt
      have i1 : ∀ w, _ := fun w => idx3 up hlt w
      cases e1 : vIn (up k) 0 100 <;> cases e2 : vIn (dn k) 0 100
      case true.true =>
        have hok' : ∀ j, j < k + 1 → vOk1 up dn j = true := fun j hj => by
          rcases Nat.lt_or_ge j k with h | h
          · exact hok j h
          · obtain rfl : j = k := by omega
            simp [vOk1, e1, e2]
        go_wp2_with (go_at_call 88; (first | with_reducible refine (level_in_is e1 _).mono ?_ | with_reducible refine (level_in_is e2 _).mono ?_); rintro e w' ⟨rfl, rfl⟩)
        go_roundw
        case rel => exact ⟨k + 1, by omega, by go_num, hok', by first | rfl | trivial⟩
        case measure => simp [intOf]; omega
      all_goals
        have hno : vOk1 up dn k = false := by simp [vOk1, e1, e2]
        have hc : vLoads up dn = false := vLoads_f hlt hno
        clear hno
        go_wp2_with (go_at_call 88; (first | with_reducible refine (level_in_is e1 _).mono ?_ | with_reducible refine (level_in_is e2 _).mono ?_); rintro e w' ⟨rfl, rfl⟩)
        go_ret
        exact ⟨ret_bool hc.symm, hb1⟩
    · have hc : vLoads up dn = true := vLoads_t fun j hj => hok j (by omega)
      go_wp2_with fail
      go_ret
      exact ⟨ret_bool hc.symm, hb1⟩
theorem level_loads_is {up dn : Nat → Int} {hold : Int} {v : Bool} (h : vLoads up dn = v) (w : World) :
    Calls Try.prog 97 #[lcV up dn hold] w fun e w' => e = .returned (.bool v) ∧ Below w.heap.size w w' := by
  subst h; exact level_loads_any up dn hold w
end Go.Proofs.Ytolpiaehleefbaa

/- Contracts of package level, further: Check, Fine, New, Usual, asked, Allows, Name. -/
namespace Go.Proofs.Ytolpiaehleefbaa
open Go.RowKit
set_option linter.unusedSimpArgs false
set_option linter.unusedVariables false

set_option maxHeartbeats 2000000 in
theorem level_Check_any (up dn : Nat → Int) (hold : Int) (w : World) :
    Calls Try.prog 60 #[lcV up dn hold] w fun e w' => e = .returned (.int .i64 (vCheck up dn hold)) ∧ Below w.heap.size w w' := by
  cases e1 : vLoads up dn
  · have hc : Hid (vCheck up dn hold = 8) := by show _ = _; simp [vCheck, e1]
    go_enter Try.func60, Try.ntmps60
    go_wp2_with fail
    refine (level_loads_is e1 _).mono ?_; rintro e w1 ⟨rfl, hb1⟩
    go_wp2_with fail
    go_ret
    exact ⟨ret_int hc.out.symm, by (repeat (first | with_reducible exact Below.refl _ _ | with_reducible assumption | with_reducible refine Below.drew ?_ | with_reducible refine Below.drewN ?_ _ | with_reducible refine Below.alloc1 ?_ _ | with_reducible refine Below.setCell1 ?_ (by first | omega | (simp; done) | (simp; omega)) _ | with_reducible refine Below.step ?_ (by with_reducible assumption)))⟩
  · cases e2 : vIn hold 0 1000
    · have hc : Hid (vCheck up dn hold = 8) := by show _ = _; simp [vCheck, e1, e2]
      go_enter Try.func60, Try.ntmps60
      go_wp2_with fail
      generalize hW : World.alloc w _ = w0
      have hb0 : Below w.heap.size w w0 := by subst hW; (repeat (first | with_reducible exact Below.refl _ _ | with_reducible assumption | with_reducible refine Below.drew ?_ | with_reducible refine Below.drewN ?_ _ | with_reducible refine Below.alloc1 ?_ _ | with_reducible refine Below.setCell1 ?_ (by first | omega | (simp; done) | (simp; omega)) _ | with_reducible refine Below.step ?_ (by with_reducible assumption)))
      have k0 : Bk w0 w.heap.size 41 (lcC up dn hold) := by subst hW; (repeat (first | with_reducible exact Bk.new' _ _ _ _ (by simp; done) | with_reducible assumption | with_reducible refine Bk.alloc ?_ _ | with_reducible refine Bk.drew ?_ | with_reducible refine Bk.drewN ?_ _ | with_reducible refine Bk.step ?_ (by with_reducible assumption) | with_reducible refine Bk.far ?_ (by first | omega | (simp; done) | (simp; omega)) _))
      clear hW
      refine (level_loads_is e1 _).mono ?_; rintro e w1 ⟨rfl, hb1⟩
      have k1 := k0.step hb1
      have lk := k1.lt
      have k1_0 := k1.cell 0; have k1_f0 := k1.frozen 0; have k1_1 := k1.cell 1; have k1_f1 := k1.frozen 1; have k1_2 := k1.cell 2; have k1_f2 := k1.frozen 2; have k1_3 := k1.cell 3; have k1_f3 := k1.frozen 3; have k1_4 := k1.cell 4; have k1_f4 := k1.frozen 4; have k1_5 := k1.cell 5; have k1_f5 := k1.frozen 5; have k1_6 := k1.cell 6; have k1_f6 := k1.frozen 6; simp only [List.set_cons_zero, List.set_cons_succ, List.getElem?_cons_zero, List.getElem?_cons_succ] at k1_0 k1_1 k1_2 k1_3 k1_4 k1_5 k1_6
      go_wp2_with fail
      refine (level_in_is e2 _).mono ?_; rintro e w' ⟨rfl, rfl⟩
      go_wp2_with fail
      go_ret
      exact ⟨ret_int hc.out.symm, by (repeat (first | with_reducible exact Below.refl _ _ | with_reducible assumption | with_reducible refine Below.drew ?_ | with_reducible refine Below.drewN ?_ _ | with_reducible refine Below.alloc1 ?_ _ | with_reducible refine Below.setCell1 ?_ (by first | omega | (simp; done) | (simp; omega)) _ | with_reducible refine Below.step ?_ (by with_reducible assumption)))⟩
    · have HC : Hid (vCheck up dn hold = if vOrder up dn then 0 else 10) := by show _ = _; simp [vCheck, e1, e2]
      have hl := fun k (hk : k < 3) => vLoads_of e1 hk
      go_enter Try.func60, Try.ntmps60
      go_wp2_with fail
      generalize hW : World.alloc w _ = w0
      have hb0 : Below w.heap.size w w0 := by subst hW; (repeat (first | with_reducible exact Below.refl _ _ | with_reducible assumption | with_reducible refine Below.drew ?_ | with_reducible refine Below.drewN ?_ _ | with_reducible refine Below.alloc1 ?_ _ | with_reducible refine Below.setCell1 ?_ (by first | omega | (simp; done) | (simp; omega)) _ | with_reducible refine Below.step ?_ (by with_reducible assumption)))
      have k0 : Bk w0 w.heap.size 41 (lcC up dn hold) := by subst hW; (repeat (first | with_reducible exact Bk.new' _ _ _ _ (by simp; done) | with_reducible assumption | with_reducible refine Bk.alloc ?_ _ | with_reducible refine Bk.drew ?_ | with_reducible refine Bk.drewN ?_ _ | with_reducible refine Bk.step ?_ (by with_reducible assumption) | with_reducible refine Bk.far ?_ (by first | omega | (simp; done) | (simp; omega)) _))
      clear hW
      refine (level_loads_is e1 _).mono ?_; rintro e w1 ⟨rfl, hb1⟩
      have k1 := k0.step hb1
      have hb2 : Below w.heap.size w w1 := by (repeat (first | with_reducible exact Below.refl _ _ | with_reducible assumption | with_reducible refine Below.drew ?_ | with_reducible refine Below.drewN ?_ _ | with_reducible refine Below.alloc1 ?_ _ | with_reducible refine Below.setCell1 ?_ (by first | omega | (simp; done) | (simp; omega)) _ | with_reducible refine Below.step ?_ (by with_reducible assumption)))
      have lk := k1.lt
      have k1_0 := k1.cell 0; have k1_f0 := k1.frozen 0; have k1_1 := k1.cell 1; have k1_f1 := k1.frozen 1; have k1_2 := k1.cell 2; have k1_f2 := k1.frozen 2; have k1_3 := k1.cell 3; have k1_f3 := k1.frozen 3; have k1_4 := k1.cell 4; have k1_f4 := k1.frozen 4; have k1_5 := k1.cell 5; have k1_f5 := k1.frozen 5; have k1_6 := k1.cell 6; have k1_f6 := k1.frozen 6; simp only [List.set_cons_zero, List.set_cons_succ, List.getElem?_cons_zero, List.getElem?_cons_succ] at k1_0 k1_1 k1_2 k1_3 k1_4 k1_5 k1_6
      go_wp2_with fail
      refine (level_in_is e2 _).mono ?_; rintro e w' ⟨rfl, rfl⟩
      go_wp2_with fail
      clear k1_0 k1_1 k1_2 k1_3 k1_4 k1_5 k1_6 k1_f0 k1_f1 k1_f2 k1_f3 k1_f4 k1_f5 k1_f6 k0 hb0 hb1
      have HB := hide hb2
      have HL := hide hl
      clear hb2 hl e1 e2
      go_loopw [3, 4, 15] (fun o p i wr => ∃ (k n : Nat), k ≤ 3 ∧ i = .int .i64 k ∧ o = .int .i64 (vPrev up k) ∧ p = .int .i64 (vPrev dn k) ∧ Hid (∀ j, j < k → vOk2 up dn j = true) ∧ wr = w1.drewN n) (fun _ _ i _ => 3 - (intOf i).toNat)
      case atStart => exact ⟨0, 0, by omega, rfl, rfl, rfl, (fun j hj => by omega), rfl⟩
      case round =>
        obtain ⟨k, n, hk, rfl, rfl, rfl, hok, rfl⟩ := hrel
        by_cases hlt : k < 3
        · have c1 := up_cell k1 hlt
          have c2 := dn_cell k1 hlt
          have lk' : w.heap.size < (w1.drewN n).heap.size := lk
          have hno : Hid (vOk2 up dn k = false → vCheck up dn hold = 10) := fun h => by rw [HC.out, vOrder_f hlt h]; rfl
          have hok' : Hid (vOk2 up dn k = true → ∀ j, j < k + 1 → vOk2 up dn j = true) := fun a j hj => by
            rcases Nat.lt_or_ge j k with h | h
            · exact hok.out j h
            · obtain rfl : j = k := by omega
              exact a
          have HD : Hid (vOk2 up dn k = (decide (vPrev up k ≤ up k) && decide (vPrev dn k ≤ dn k) && decide (dn k ≤ up k))) := rfl
          by_cases a1 : up k < vPrev up k
          · go_wp2_with fail
            go_quiet (fail)
            go_wp2_with fail
            go_ret
            exact ⟨ret_int (hno.out (by rw [HD.out]; simp only [Bool.and_eq_false_iff, decide_eq_false_iff_not]; omega)).symm, (HB.out.drewN _).drewN _⟩
          · have d1 : decide (up k < vPrev up k) = false := by simpa using a1
            by_cases a2 : dn k < vPrev dn k
            · go_wp2_with fail
              go_quiet (fail)
              go_wp2_with fail
              go_ret
              exact ⟨ret_int (hno.out (by rw [HD.out]; simp only [Bool.and_eq_false_iff, decide_eq_false_iff_not]; omega)).symm, (HB.out.drewN _).drewN _⟩
            · have d2 : decide (dn k < vPrev dn k) = false := by simpa using a2
              by_cases a3 : up k < dn k
              · go_wp2_with fail
                go_quiet (fail)
                go_wp2_with fail
                go_ret
                exact ⟨ret_int (hno.out (by rw [HD.out]; simp only [Bool.and_eq_false_iff, decide_eq_false_iff_not]; omega)).symm, (HB.out.drewN _).drewN _⟩
              · have d3 : decide (up k < dn k) = false := by simpa using a3
                go_wp2_with fail
                go_quiet (fail)
                go_wp2_with fail
                go_quiet (fail)
                go_wp2_with fail
                go_roundw
                case rel => exact ⟨k + 1, _, by omega, by go_num, rfl, rfl, hok'.out (by rw [HD.out]; simp only [Bool.and_eq_true, decide_eq_true_eq]; omega), rfl⟩
                case measure => simp [intOf]; omega
        · have hc : Hid (vCheck up dn hold = 0) := by show _ = _; rw [HC.out, vOrder_t fun j hj => hok.out j (by omega)]; rfl
          go_wp2_with fail
          go_ret
          exact ⟨ret_int hc.out.symm, HB.out.drewN _⟩
theorem level_Check_is {up dn : Nat → Int} {hold v : Int} (h : vCheck up dn hold = v) (w : World) :
    Calls Try.prog 60 #[lcV up dn hold] w fun e w' => e = .returned (.int .i64 v) ∧ Below w.heap.size w w' := by
  subst h; exact level_Check_any up dn hold w

theorem level_Fine_any (l s v : Int) (w : World) :
    Calls Try.prog 53 #[lsV l s v] w fun e w' => e = .returned (.bool (vFine l s v)) ∧ Below w.heap.size w w' := by
  have HF : Hid (vFine l s v = (vIn l 0 3 && vIn s 0 1099511627776 && vIn v (-1) 1099511627776)) := rfl
  cases h1 : vIn l 0 3 <;> cases h2 : vIn s 0 1099511627776 <;> cases h3 : vIn v (-1) 1099511627776
  all_goals
    go_enter Try.func53, Try.ntmps53
    go_wp2_with (go_at_call 88; refine (level_in_any _ _ _ _).mono ?_; rintro e w' ⟨rfl, rfl⟩)
    go_ret
    exact ⟨ret_bool (by rw [HF.out, h1, h2, h3]; rfl), by (repeat (first | with_reducible exact Below.refl _ _ | with_reducible assumption | with_reducible refine Below.drew ?_ | with_reducible refine Below.drewN ?_ _ | with_reducible refine Below.alloc1 ?_ _ | with_reducible refine Below.setCell1 ?_ (by first | omega | (simp; done) | (simp; omega)) _ | with_reducible refine Below.step ?_ (by with_reducible assumption)))⟩
theorem level_Fine_is {l s v : Int} {b : Bool} (h : vFine l s v = b) (w : World) :
    Calls Try.prog 53 #[lsV l s v] w fun e w' => e = .returned (.bool b) ∧ Below w.heap.size w w' := by
  subst h; exact level_Fine_any l s v w
theorem level_New_any (w : World) : Calls Try.prog 40 #[] w fun e w' => e = .returned (lsV 0 0 (-1)) ∧ Below w.heap.size w w' := by
  go_enter Try.func40, Try.ntmps40
  go_wp2
  exact bodyPost_ret (v := lsV 0 0 (-1)) (by skip; simp only [results, Try.results40]; go_simp) rfl ⟨rfl, by (repeat (first | with_reducible exact Below.refl _ _ | with_reducible assumption | with_reducible refine Below.drew ?_ | with_reducible refine Below.drewN ?_ _ | with_reducible refine Below.alloc1 ?_ _ | with_reducible refine Below.setCell1 ?_ (by first | omega | (simp; done) | (simp; omega)) _ | with_reducible refine Below.step ?_ (by with_reducible assumption)))⟩
def u3 (a b c : Int) : Nat → Int
  | 0 => a
  | 1 => b
  | _ => c
theorem level_Usual_any (w : World) : Calls Try.prog 66 #[] w fun e w' => e = .returned (lcV (u3 50 75 90) (u3 40 60 80) 5) ∧ Below w.heap.size w w' := by
  go_enter Try.func66, Try.ntmps66
  go_wp2
  exact bodyPost_ret (v := lcV (u3 50 75 90) (u3 40 60 80) 5) (by simp only [lcV, u3]; simp only [results, Try.results66]; go_simp) rfl ⟨rfl, by (repeat (first | with_reducible exact Below.refl _ _ | with_reducible assumption | with_reducible refine Below.drew ?_ | with_reducible refine Below.drewN ?_ _ | with_reducible refine Below.alloc1 ?_ _ | with_reducible refine Below.setCell1 ?_ (by first | omega | (simp; done) | (simp; omega)) _ | with_reducible refine Below.step ?_ (by with_reducible assumption)))⟩

set_option maxHeartbeats 1000000 in
theorem level_asked_any (up dn : Nat → Int) (hold : Int) (l : Nat) (hl : l ≤ 3) (load : Int) (w : World) :
    Calls Try.prog 91 #[lcV up dn hold, .int .i64 l, .int .i64 load] w fun e w' => e = .returned (.int .i64 (vAsked up load l)) ∧ Below w.heap.size w w' := by
  go_enter Try.func91, Try.ntmps91
  go_wp2_with fail
  generalize hW : World.alloc w _ = w1
  have hb1 : Below w.heap.size w w1 := by subst hW; (repeat (first | with_reducible exact Below.refl _ _ | with_reducible assumption | with_reducible refine Below.drew ?_ | with_reducible refine Below.drewN ?_ _ | with_reducible refine Below.alloc1 ?_ _ | with_reducible refine Below.setCell1 ?_ (by first | omega | (simp; done) | (simp; omega)) _ | with_reducible refine Below.step ?_ (by with_reducible assumption)))
  have k0 : Bk w1 w.heap.size 41 (lcC up dn hold) := by subst hW; (repeat (first | with_reducible exact Bk.new' _ _ _ _ (by simp; done) | with_reducible assumption | with_reducible refine Bk.alloc ?_ _ | with_reducible refine Bk.drew ?_ | with_reducible refine Bk.drewN ?_ _ | with_reducible refine Bk.step ?_ (by with_reducible assumption) | with_reducible refine Bk.far ?_ (by first | omega | (simp; done) | (simp; omega)) _))
  have lk := k0.lt
  clear hW
  go_loopw [1] (fun i wr => ∃ k : Nat, k ≤ 3 ∧ i = .int .i64 k ∧ Hid (vAsked up load l = vAsked up load k) ∧ wr = w1) (fun i _ => 3 - (intOf i).toNat)
  case atStart => exact ⟨l, hl, rfl, rfl, rfl⟩
  case round =>
    obtain ⟨k, hk, rfl, hok, rfl⟩ := hrel
    by_cases hlt : k < 3
    · have c1 := up_cell k0 hlt
      by_cases hu : up k ≤ load
      · have hok' : Hid (vAsked up load l = vAsked up load (k + 1)) := hok.out.trans (vAsked_step hlt hu)
        go_wp2_with fail
        go_roundw
        case rel => exact ⟨k + 1, by omega, by go_num, hok', by first | rfl | trivial⟩
        case measure => simp [intOf]; omega
      · have hok' : Hid (vAsked up load l = k) := hok.out.trans (vAsked_stop (by omega))
        replace hu : load < up k := by omega
        go_wp2_with fail
        go_ret
        exact ⟨ret_int (by rw [hok'.out]), hb1⟩
    · have hok' : Hid (vAsked up load l = k) := hok.out.trans (vAsked_top (by omega))
      go_wp2_with fail
      go_ret
      exact ⟨ret_int (by rw [hok'.out]), hb1⟩

def vAllows (level what : Int) : Bool := vIn level 0 3 && (((what == 0 || what == 2) && decide (level < 3)) || (what == 1 && decide (level < 2)) || what == 3)
theorem level_Allows_any (level what : Int) (w : World) :
    Calls Try.prog 46 #[.int .i64 level, .int .i64 what] w fun e w' => e = .returned (.bool (vAllows level what)) ∧ w = w' := by
  have HA : Hid (vAllows level what = (vIn level 0 3 && (((what == 0 || what == 2) && decide (level < 3)) || (what == 1 && decide (level < 2)) || what == 3))) := rfl
  cases h1 : vIn level 0 3
  · go_enter Try.func46, Try.ntmps46
    go_wp2_with (go_at_call 88; refine (level_in_is h1 _).mono ?_; rintro e w' ⟨rfl, rfl⟩)
    go_ret
    exact ⟨ret_bool (by rw [HA.out, h1]; rfl), rfl⟩
  · by_cases a0 : what = 0
    · subst a0
      by_cases a : level < 3
      all_goals
        go_enter Try.func46, Try.ntmps46
        go_wp2_with (go_at_call 88; refine (level_in_is h1 _).mono ?_; rintro e w' ⟨rfl, rfl⟩)
        go_ret
        exact ⟨ret_bool (by rw [HA.out, h1]; simp [a]), rfl⟩
    · by_cases a1 : what = 1
      · subst a1
        by_cases a : level < 2
        all_goals
          go_enter Try.func46, Try.ntmps46
          go_wp2_with (go_at_call 88; refine (level_in_is h1 _).mono ?_; rintro e w' ⟨rfl, rfl⟩)
          go_ret
          exact ⟨ret_bool (by rw [HA.out, h1]; simp [a]), rfl⟩
      · by_cases a2 : what = 2
        · subst a2
          by_cases a : level < 3
          all_goals
            go_enter Try.func46, Try.ntmps46
            go_wp2_with (go_at_call 88; refine (level_in_is h1 _).mono ?_; rintro e w' ⟨rfl, rfl⟩)
            go_ret
            exact ⟨ret_bool (by rw [HA.out, h1]; simp [a]), rfl⟩
        · by_cases a3 : what = 3
          · subst a3
            go_enter Try.func46, Try.ntmps46
            go_wp2_with (go_at_call 88; refine (level_in_is h1 _).mono ?_; rintro e w' ⟨rfl, rfl⟩)
            go_ret
            exact ⟨ret_bool (by rw [HA.out, h1]; simp), rfl⟩
          · have b0 : (what == 0) = false := by simpa using a0
            have b1 : (what == 1) = false := by simpa using a1
            have b2 : (what == 2) = false := by simpa using a2
            have b3 : (what == 3) = false := by simpa using a3
            clear a0 a1 a2 a3
            go_enter Try.func46, Try.ntmps46
            go_wp2_with (go_at_call 88; refine (level_in_is h1 _).mono ?_; rintro e w' ⟨rfl, rfl⟩)
            go_ret
            exact ⟨ret_bool (by rw [HA.out, h1, b0, b1, b2, b3]; rfl), rfl⟩
end Go.Proofs.Ytolpiaehleefbaa

/- Contracts of package level, further: Name, Step, Run. -/
namespace Go.Proofs.Ytolpiaehleefbaa
open Go.RowKit
set_option linter.unusedSimpArgs false
set_option linter.unusedVariables false

def vName (level : Int) : ByteArray := if level = 0 then ⟨#[99, 97, 108, 109]⟩ else if level = 1 then ⟨#[98, 117, 115, 121]⟩ else if level = 2 then ⟨#[116, 105, 103, 104, 116]⟩ else if level = 3 then ⟨#[115, 104, 117, 116]⟩ else ⟨#[]⟩
abbrev nmV : Value := .agg #[.string ⟨#[99, 97, 108, 109]⟩, .string ⟨#[98, 117, 115, 121]⟩, .string ⟨#[116, 105, 103, 104, 116]⟩, .string ⟨#[115, 104, 117, 116]⟩]
theorem level_Step_no {up dn : Nat → Int} {hold l s v : Int} (h : vMay up dn hold l s v = false) (load now : Int) (w : World) :
    Calls Try.prog 51 #[lcV up dn hold, lsV l s v, .int .i64 load, .int .i64 now] w fun e w' => e = .returned (lsV l s v) ∧ Below w.heap.size w w' := by
  have hv := vCheck_cases up dn hold
  by_cases h0 : vCheck up dn hold = 0
  · have hf : vFine l s v = false := by simpa [vMay, h0] using h
    have H0 := hide h0
    clear h0 h hv
    go_enter Try.func51, Try.ntmps51
    go_wp2_with fail
    refine (level_Check_is H0.out _).mono ?_; rintro e w1 ⟨rfl, hb1⟩; obtain ⟨hc_hb1, hf_hb1⟩ := bcell hb1; have hz_hb1 := hb1.size; (try simp at hz_hb1)
    have lw : w.heap.size < w1.heap.size ∧ w.heap.size + 1 < w1.heap.size ∧ w.heap.size + 1 + 1 < w1.heap.size := by omega
    go_wp2_with fail
    refine (level_Fine_is hf _).mono ?_; rintro e w2 ⟨rfl, hb2⟩; obtain ⟨hc_hb2, hf_hb2⟩ := bcell hb2; have hz_hb2 := hb2.size; (try simp at hz_hb2)
    have lw2 : w.heap.size < w2.heap.size ∧ w.heap.size + 1 < w2.heap.size ∧ w.heap.size + 1 + 1 < w2.heap.size := by omega
    go_wp2_with fail
    exact bodyPost_ret (v := lsV l s v) (by skip; simp only [results, Try.results51]; go_simp) rfl ⟨rfl, by (repeat (first | with_reducible exact Below.refl _ _ | with_reducible assumption | with_reducible refine Below.drew ?_ | with_reducible refine Below.drewN ?_ _ | with_reducible refine Below.alloc1 ?_ _ | with_reducible refine Below.setCell1 ?_ (by first | omega | (simp; done) | (simp; omega)) _ | with_reducible refine Below.step ?_ (by with_reducible assumption)))⟩
  · have hv' : vCheck up dn hold = 8 ∨ vCheck up dn hold = 10 := by omega
    clear h0 h hv
    rcases hv' with h1 | h1
    all_goals
      have H1 := hide h1
      clear h1
      go_enter Try.func51, Try.ntmps51
      go_wp2_with fail
      refine (level_Check_is H1.out _).mono ?_; rintro e w1 ⟨rfl, hb1⟩; obtain ⟨hc_hb1, hf_hb1⟩ := bcell hb1; have hz_hb1 := hb1.size; (try simp at hz_hb1)
      have lw : w.heap.size < w1.heap.size ∧ w.heap.size + 1 < w1.heap.size ∧ w.heap.size + 1 + 1 < w1.heap.size := by omega
      go_wp2_with fail
      exact bodyPost_ret (v := lsV l s v) (by skip; simp only [results, Try.results51]; go_simp) rfl ⟨rfl, by (repeat (first | with_reducible exact Below.refl _ _ | with_reducible assumption | with_reducible refine Below.drew ?_ | with_reducible refine Below.drewN ?_ _ | with_reducible refine Below.alloc1 ?_ _ | with_reducible refine Below.setCell1 ?_ (by first | omega | (simp; done) | (simp; omega)) _ | with_reducible refine Below.step ?_ (by with_reducible assumption)))⟩

theorem vHeld_bd {n a b : Int} (h : a ≤ b) : a ≤ vHeld n a b ∧ vHeld n a b ≤ b := by unfold vHeld; omega
set_option maxHeartbeats 4000000 in
theorem level_Step_yes {up dn : Nat → Int} {hold s v : Int} {l : Nat} (h0 : vCheck up dn hold = 0) (hf : vFine l s v = true) (load now : Int) (w : World) :
    Calls Try.prog 51 #[lcV up dn hold, lsV l s v, .int .i64 load, .int .i64 now] w fun e w' =>
      e = .returned (lsV (vStep1 up dn hold l s v (vHeld load 0 100) (vHeld now (max s v) 1099511627776)).1 (vStep1 up dn hold l s v (vHeld load 0 100) (vHeld now (max s v) 1099511627776)).2.1 (vStep1 up dn hold l s v (vHeld load 0 100) (vHeld now (max s v) 1099511627776)).2.2) ∧ Below w.heap.size w w' := by
  have hfb := vFine_t hf
  have hcb := vCheck_t h0
  have hnb := vHeld_bd (n := now) (a := max s v) (b := 1099511627776) (by omega)
  have hlb := vHeld_bd (n := load) (a := 0) (b := 100) (by omega)
  have hab := vAsked_le up (vHeld load 0 100) l
  have hlv := fun k (hk : k < 3) => vLoads_of hcb.1.1 hk
  have hho := hcb.1.2
  have HLV := hide hlv
  have HST : Hid (∀ load now : Int, vStep1 up dn hold l s v load now = if l < vAsked up load l then (↑(vAsked up load l), now, -1)
    else if l = 0 ∨ dn (l - 1) ≤ load then (↑l, s, -1) else if now - (if v = -1 then now else v) < hold then (↑l, s, if v = -1 then now else v) else ((l : Int) - 1, now, -1)) := fun _ _ => rfl
  have H0 := hide h0
  have HF := hide hf
  have hA : ∀ {a : Nat}, vAsked up (vHeld load 0 100) l = a → Hid (vAsked up (vHeld load 0 100) l = a) := fun h => h
  obtain ⟨A, hAe⟩ : ∃ A, vAsked up (vHeld load 0 100) l = A := ⟨_, rfl⟩
  have HA := hide hAe
  rw [hAe] at hab
  obtain ⟨LD, hLD⟩ : ∃ x, vHeld load 0 100 = x := ⟨_, rfl⟩
  obtain ⟨NW, hNW⟩ : ∃ x, vHeld now (max s v) 1099511627776 = x := ⟨_, rfl⟩
  rw [hLD] at hlb HA
  rw [hNW] at hnb
  rw [hLD, hNW]
  have HLD := hide hLD
  have HNW := hide hNW
  have hlA : l ≤ A ∧ A ≤ 3 := ⟨hab.1, hab.2 (by omega)⟩
  have hl3 : l ≤ 3 := by omega
  clear h0 hf hcb hlv hA hAe hLD hNW hab
  rcases Int.lt_or_le s v with hsv | hsv
  · have HH : Hid (∀ w, Calls Try.prog 90 #[.int .i64 now, .int .i64 v, .int .i64 1099511627776] w fun e w' => e = .returned (.int .i64 NW) ∧ w = w') := fun w => (level_held_any _ _ _ w).lit (by rw [← HNW.out]; congr 2; omega)
    have HH0 : Hid (∀ w, Calls Try.prog 90 #[.int .i64 load, .int .i64 0, .int .i64 100] w fun e w' => e = .returned (.int .i64 LD) ∧ w = w') := fun w => (level_held_any _ _ _ w).lit (by rw [HLD.out])
    have HAK : Hid (∀ w, Calls Try.prog 91 #[lcV up dn hold, .int .i64 l, .int .i64 LD] w fun e w' => e = .returned (.int .i64 A) ∧ Below w.heap.size w w') := fun w => (level_asked_any up dn hold l hl3 LD w).lit (by rw [HA.out])
    generalize hXS : vStep1 up dn hold l s v LD NW = X
    have HX : Hid (X = if l < A then (↑A, NW, -1) else if l = 0 ∨ dn (l - 1) ≤ LD then (↑l, s, -1) else if NW - (if v = -1 then NW else v) < hold then (↑l, s, if v = -1 then NW else v) else ((l : Int) - 1, NW, -1)) := by
      rw [← hXS]; have h := HST.out LD NW; rw [HA.out] at h; exact h
    clear hXS
    go_enter Try.func51, Try.ntmps51
    go_wp2_with fail
    generalize hV : World.alloc (World.alloc (World.alloc w _) _) _ = w0
    have hb0 : Below w.heap.size w w0 := by subst hV; (repeat (first | with_reducible exact Below.refl _ _ | with_reducible assumption | with_reducible refine Below.drew ?_ | with_reducible refine Below.drewN ?_ _ | with_reducible refine Below.alloc1 ?_ _ | with_reducible refine Below.setCell1 ?_ (by first | omega | (simp; done) | (simp; omega)) _ | with_reducible refine Below.step ?_ (by with_reducible assumption)))
    have q0 : Bk w0 w.heap.size 41 (lcC up dn hold) := by subst hV; (repeat (first | with_reducible exact Bk.new' _ _ _ _ (by simp; done) | with_reducible assumption | with_reducible refine Bk.alloc ?_ _ | with_reducible refine Bk.drew ?_ | with_reducible refine Bk.drewN ?_ _ | with_reducible refine Bk.step ?_ (by with_reducible assumption) | with_reducible refine Bk.far ?_ (by first | omega | (simp; done) | (simp; omega)) _))
    have q1 : Bk w0 (w.heap.size + 1) 49 (lsC l s v) := by subst hV; (repeat (first | with_reducible exact Bk.new' _ _ _ _ (by simp; done) | with_reducible assumption | with_reducible refine Bk.alloc ?_ _ | with_reducible refine Bk.drew ?_ | with_reducible refine Bk.drewN ?_ _ | with_reducible refine Bk.step ?_ (by with_reducible assumption) | with_reducible refine Bk.far ?_ (by first | omega | (simp; done) | (simp; omega)) _))
    have q2 : Bk w0 (w.heap.size + 1 + 1) 49 (lsC 0 0 0) := by subst hV; (repeat (first | with_reducible exact Bk.new' _ _ _ _ (by simp; done) | with_reducible assumption | with_reducible refine Bk.alloc ?_ _ | with_reducible refine Bk.drew ?_ | with_reducible refine Bk.drewN ?_ _ | with_reducible refine Bk.step ?_ (by with_reducible assumption) | with_reducible refine Bk.far ?_ (by first | omega | (simp; done) | (simp; omega)) _))
    clear hV
    refine (level_Check_is H0.out _).mono ?_; rintro e w1 ⟨rfl, hb1⟩
    replace q0 := q0.step hb1
    replace q1 := q1.step hb1
    replace q2 := q2.step hb1
    replace hb0 : Below w.heap.size w w1 := by (repeat (first | with_reducible exact Below.refl _ _ | with_reducible assumption | with_reducible refine Below.drew ?_ | with_reducible refine Below.drewN ?_ _ | with_reducible refine Below.alloc1 ?_ _ | with_reducible refine Below.setCell1 ?_ (by first | omega | (simp; done) | (simp; omega)) _ | with_reducible refine Below.step ?_ (by with_reducible assumption)))
    have q0_0 := q0.cell 0; have q0_f0 := q0.frozen 0; have q0_1 := q0.cell 1; have q0_f1 := q0.frozen 1; have q0_2 := q0.cell 2; have q0_f2 := q0.frozen 2; have q0_3 := q0.cell 3; have q0_f3 := q0.frozen 3; have q0_4 := q0.cell 4; have q0_f4 := q0.frozen 4; have q0_5 := q0.cell 5; have q0_f5 := q0.frozen 5; have q0_6 := q0.cell 6; have q0_f6 := q0.frozen 6; simp only [List.set_cons_zero, List.set_cons_succ, List.getElem?_cons_zero, List.getElem?_cons_succ] at q0_0 q0_1 q0_2 q0_3 q0_4 q0_5 q0_6
    have q1_0 := q1.cell 0; have q1_f0 := q1.frozen 0; have q1_1 := q1.cell 1; have q1_f1 := q1.frozen 1; have q1_2 := q1.cell 2; have q1_f2 := q1.frozen 2; simp only [List.set_cons_zero, List.set_cons_succ, List.getElem?_cons_zero, List.getElem?_cons_succ] at q1_0 q1_1 q1_2
    have q2_0 := q2.cell 0; have q2_f0 := q2.frozen 0; have q2_1 := q2.cell 1; have q2_f1 := q2.frozen 1; have q2_2 := q2.cell 2; have q2_f2 := q2.frozen 2; simp only [List.set_cons_zero, List.set_cons_succ, List.getElem?_cons_zero, List.getElem?_cons_succ] at q2_0 q2_1 q2_2
    have lw : w.heap.size < w1.heap.size ∧ w.heap.size + 1 < w1.heap.size ∧ w.heap.size + 1 + 1 < w1.heap.size := ⟨q0.lt, q1.lt, q2.lt⟩
    clear hb1
    go_wp2_with fail
    refine (level_Fine_is HF.out _).mono ?_; rintro e w2 ⟨rfl, hb2⟩; obtain ⟨hc_hb2, hf_hb2⟩ := bcell hb2; have hz_hb2 := hb2.size; (try simp at hz_hb2)
    have lw2 : w.heap.size < w2.heap.size ∧ w.heap.size + 1 < w2.heap.size ∧ w.heap.size + 1 + 1 < w2.heap.size := by omega
    go_wp2_with fail
    refine (HH0.out _).mono ?_; rintro e w' ⟨rfl, rfl⟩
    go_wp2_with fail
    refine (HH.out _).mono ?_; rintro e w' ⟨rfl, rfl⟩
    go_wp2_with fail
    refine (HAK.out _).mono ?_; rintro e w3 ⟨rfl, hb3⟩; obtain ⟨hc_hb3, hf_hb3⟩ := bcell hb3; have hz_hb3 := hb3.size; (try simp at hz_hb3)
    have lw3 : w.heap.size < w3.heap.size ∧ w.heap.size + 1 < w3.heap.size ∧ w.heap.size + 1 + 1 < w3.heap.size := by omega
    have hbw : Below w.heap.size w w3 := by (repeat (first | with_reducible exact Below.refl _ _ | with_reducible assumption | with_reducible refine Below.drew ?_ | with_reducible refine Below.drewN ?_ _ | with_reducible refine Below.alloc1 ?_ _ | with_reducible refine Below.setCell1 ?_ (by first | omega | (simp; done) | (simp; omega)) _ | with_reducible refine Below.step ?_ (by with_reducible assumption)))
    by_cases c1 : l < A
    · go_wp2_with fail
      exact bodyPost_ret (v := lsV X.1 X.2.1 X.2.2) (by rw [HX.out, if_pos c1]; simp only [results, Try.results51]; go_simp) rfl ⟨rfl, by (repeat (first | with_reducible exact Below.refl _ _ | with_reducible assumption | with_reducible refine Below.drew ?_ | with_reducible refine Below.drewN ?_ _ | with_reducible refine Below.alloc1 ?_ _ | with_reducible refine Below.setCell1 ?_ (by first | omega | (simp; done) | (simp; omega)) _ | with_reducible refine Below.step ?_ (by with_reducible assumption)))⟩
    · rcases Nat.eq_zero_or_pos l with hl0 | hl0
      · subst hl0
        have HX0 : Hid (X = (0, s, -1)) := by
          show _ = _
          rw [HX.out, if_neg c1, if_pos (Or.inl rfl)]; rfl
        go_wp2_with fail
        exact bodyPost_ret (v := lsV X.1 X.2.1 X.2.2) (by rw [HX0.out]; simp only [results, Try.results51]; go_simp) rfl ⟨rfl, by (repeat (first | with_reducible exact Below.refl _ _ | with_reducible assumption | with_reducible refine Below.drew ?_ | with_reducible refine Below.drewN ?_ _ | with_reducible refine Below.alloc1 ?_ _ | with_reducible refine Below.setCell1 ?_ (by first | omega | (simp; done) | (simp; omega)) _ | with_reducible refine Below.step ?_ (by with_reducible assumption)))⟩
      · obtain ⟨k, rfl⟩ : ∃ k, l = k + 1 := ⟨l - 1, by omega⟩
        have hk3 : k < 3 := by omega
        have hd := HLV.out k hk3
        have dc := dn_cell q0 hk3
        have HX2 : Hid (X = if dn k ≤ LD then (((k + 1 : Nat) : Int), s, -1) else if NW - (if v = -1 then NW else v) < hold then (((k + 1 : Nat) : Int), s, if v = -1 then NW else v) else (((k + 1 : Nat) : Int) - 1, NW, -1)) := by
          show _ = _
          rw [HX.out, if_neg c1]
          simp only [Nat.add_sub_cancel, show (k + 1 = 0) = False by simp, false_or]
        have HE : Hid (A = k + 1) := by show _ = _; omega
        by_cases c2 : dn k ≤ LD
        · go_wp2_with fail
          exact bodyPost_ret (v := lsV X.1 X.2.1 X.2.2) (by rw [HX2.out, if_pos c2]; simp only [results, Try.results51]; go_simp) rfl ⟨rfl, by (repeat (first | with_reducible exact Below.refl _ _ | with_reducible assumption | with_reducible refine Below.drew ?_ | with_reducible refine Below.drewN ?_ _ | with_reducible refine Below.alloc1 ?_ _ | with_reducible refine Below.setCell1 ?_ (by first | omega | (simp; done) | (simp; omega)) _ | with_reducible refine Below.step ?_ (by with_reducible assumption)))⟩
        · have HX3 : Hid (X = if NW - (if v = -1 then NW else v) < hold then (((k + 1 : Nat) : Int), s, if v = -1 then NW else v) else (((k + 1 : Nat) : Int) - 1, NW, -1)) := by rw [HX2.out, if_neg c2]; exact rfl
          replace c2 : LD < dn k := by omega
          by_cases c3 : v = -1
          · exfalso; omega
          · have c3' : (v == -1) = false := by simpa using c3
            have HV := hide c3
            have HX4 : Hid (X = if NW - v < hold then (((k + 1 : Nat) : Int), s, v) else (((k + 1 : Nat) : Int) - 1, NW, -1)) := by rw [HX3.out, if_neg c3]; exact rfl
            clear c3
            by_cases c4 : NW - v < hold
            · go_wp2_with fail
              exact bodyPost_ret (v := lsV X.1 X.2.1 X.2.2) (by rw [HX4.out, if_pos c4]; simp only [results, Try.results51]; go_simp) rfl ⟨rfl, by (repeat (first | with_reducible exact Below.refl _ _ | with_reducible assumption | with_reducible refine Below.drew ?_ | with_reducible refine Below.drewN ?_ _ | with_reducible refine Below.alloc1 ?_ _ | with_reducible refine Below.setCell1 ?_ (by first | omega | (simp; done) | (simp; omega)) _ | with_reducible refine Below.step ?_ (by with_reducible assumption)))⟩
            · replace c4 : hold ≤ NW - v := by omega
              go_wp2_with fail
              exact bodyPost_ret (v := lsV X.1 X.2.1 X.2.2) (by rw [HX4.out, if_neg (by omega)]; simp only [results, Try.results51]; go_simp) rfl ⟨rfl, by (repeat (first | with_reducible exact Below.refl _ _ | with_reducible assumption | with_reducible refine Below.drew ?_ | with_reducible refine Below.drewN ?_ _ | with_reducible refine Below.alloc1 ?_ _ | with_reducible refine Below.setCell1 ?_ (by first | omega | (simp; done) | (simp; omega)) _ | with_reducible refine Below.step ?_ (by with_reducible assumption)))⟩
  · have HH : Hid (∀ w, Calls Try.prog 90 #[.int .i64 now, .int .i64 s, .int .i64 1099511627776] w fun e w' => e = .returned (.int .i64 NW) ∧ w = w') := fun w => (level_held_any _ _ _ w).lit (by rw [← HNW.out]; congr 2; omega)
    have HH0 : Hid (∀ w, Calls Try.prog 90 #[.int .i64 load, .int .i64 0, .int .i64 100] w fun e w' => e = .returned (.int .i64 LD) ∧ w = w') := fun w => (level_held_any _ _ _ w).lit (by rw [HLD.out])
    have HAK : Hid (∀ w, Calls Try.prog 91 #[lcV up dn hold, .int .i64 l, .int .i64 LD] w fun e w' => e = .returned (.int .i64 A) ∧ Below w.heap.size w w') := fun w => (level_asked_any up dn hold l hl3 LD w).lit (by rw [HA.out])
    generalize hXS : vStep1 up dn hold l s v LD NW = X
    have HX : Hid (X = if l < A then (↑A, NW, -1) else if l = 0 ∨ dn (l - 1) ≤ LD then (↑l, s, -1) else if NW - (if v = -1 then NW else v) < hold then (↑l, s, if v = -1 then NW else v) else ((l : Int) - 1, NW, -1)) := by
      rw [← hXS]; have h := HST.out LD NW; rw [HA.out] at h; exact h
    clear hXS
    go_enter Try.func51, Try.ntmps51
    go_wp2_with fail
    generalize hV : World.alloc (World.alloc (World.alloc w _) _) _ = w0
    have hb0 : Below w.heap.size w w0 := by subst hV; (repeat (first | with_reducible exact Below.refl _ _ | with_reducible assumption | with_reducible refine Below.drew ?_ | with_reducible refine Below.drewN ?_ _ | with_reducible refine Below.alloc1 ?_ _ | with_reducible refine Below.setCell1 ?_ (by first | omega | (simp; done) | (simp; omega)) _ | with_reducible refine Below.step ?_ (by with_reducible assumption)))
    have q0 : Bk w0 w.heap.size 41 (lcC up dn hold) := by subst hV; (repeat (first | with_reducible exact Bk.new' _ _ _ _ (by simp; done) | with_reducible assumption | with_reducible refine Bk.alloc ?_ _ | with_reducible refine Bk.drew ?_ | with_reducible refine Bk.drewN ?_ _ | with_reducible refine Bk.step ?_ (by with_reducible assumption) | with_reducible refine Bk.far ?_ (by first | omega | (simp; done) | (simp; omega)) _))
    have q1 : Bk w0 (w.heap.size + 1) 49 (lsC l s v) := by subst hV; (repeat (first | with_reducible exact Bk.new' _ _ _ _ (by simp; done) | with_reducible assumption | with_reducible refine Bk.alloc ?_ _ | with_reducible refine Bk.drew ?_ | with_reducible refine Bk.drewN ?_ _ | with_reducible refine Bk.step ?_ (by with_reducible assumption) | with_reducible refine Bk.far ?_ (by first | omega | (simp; done) | (simp; omega)) _))
    have q2 : Bk w0 (w.heap.size + 1 + 1) 49 (lsC 0 0 0) := by subst hV; (repeat (first | with_reducible exact Bk.new' _ _ _ _ (by simp; done) | with_reducible assumption | with_reducible refine Bk.alloc ?_ _ | with_reducible refine Bk.drew ?_ | with_reducible refine Bk.drewN ?_ _ | with_reducible refine Bk.step ?_ (by with_reducible assumption) | with_reducible refine Bk.far ?_ (by first | omega | (simp; done) | (simp; omega)) _))
    clear hV
    refine (level_Check_is H0.out _).mono ?_; rintro e w1 ⟨rfl, hb1⟩
    replace q0 := q0.step hb1
    replace q1 := q1.step hb1
    replace q2 := q2.step hb1
    replace hb0 : Below w.heap.size w w1 := by (repeat (first | with_reducible exact Below.refl _ _ | with_reducible assumption | with_reducible refine Below.drew ?_ | with_reducible refine Below.drewN ?_ _ | with_reducible refine Below.alloc1 ?_ _ | with_reducible refine Below.setCell1 ?_ (by first | omega | (simp; done) | (simp; omega)) _ | with_reducible refine Below.step ?_ (by with_reducible assumption)))
    have q0_0 := q0.cell 0; have q0_f0 := q0.frozen 0; have q0_1 := q0.cell 1; have q0_f1 := q0.frozen 1; have q0_2 := q0.cell 2; have q0_f2 := q0.frozen 2; have q0_3 := q0.cell 3; have q0_f3 := q0.frozen 3; have q0_4 := q0.cell 4; have q0_f4 := q0.frozen 4; have q0_5 := q0.cell 5; have q0_f5 := q0.frozen 5; have q0_6 := q0.cell 6; have q0_f6 := q0.frozen 6; simp only [List.set_cons_zero, List.set_cons_succ, List.getElem?_cons_zero, List.getElem?_cons_succ] at q0_0 q0_1 q0_2 q0_3 q0_4 q0_5 q0_6
    have q1_0 := q1.cell 0; have q1_f0 := q1.frozen 0; have q1_1 := q1.cell 1; have q1_f1 := q1.frozen 1; have q1_2 := q1.cell 2; have q1_f2 := q1.frozen 2; simp only [List.set_cons_zero, List.set_cons_succ, List.getElem?_cons_zero, List.getElem?_cons_succ] at q1_0 q1_1 q1_2
    have q2_0 := q2.cell 0; have q2_f0 := q2.frozen 0; have q2_1 := q2.cell 1; have q2_f1 := q2.frozen 1; have q2_2 := q2.cell 2; have q2_f2 := q2.frozen 2; simp only [List.set_cons_zero, List.set_cons_succ, List.getElem?_cons_zero, List.getElem?_cons_succ] at q2_0 q2_1 q2_2
    have lw : w.heap.size < w1.heap.size ∧ w.heap.size + 1 < w1.heap.size ∧ w.heap.size + 1 + 1 < w1.heap.size := ⟨q0.lt, q1.lt, q2.lt⟩
    clear hb1
    go_wp2_with fail
    refine (level_Fine_is HF.out _).mono ?_; rintro e w2 ⟨rfl, hb2⟩; obtain ⟨hc_hb2, hf_hb2⟩ := bcell hb2; have hz_hb2 := hb2.size; (try simp at hz_hb2)
    have lw2 : w.heap.size < w2.heap.size ∧ w.heap.size + 1 < w2.heap.size ∧ w.heap.size + 1 + 1 < w2.heap.size := by omega
    go_wp2_with fail
    refine (HH0.out _).mono ?_; rintro e w' ⟨rfl, rfl⟩
    go_wp2_with fail
    refine (HH.out _).mono ?_; rintro e w' ⟨rfl, rfl⟩
    go_wp2_with fail
    refine (HAK.out _).mono ?_; rintro e w3 ⟨rfl, hb3⟩; obtain ⟨hc_hb3, hf_hb3⟩ := bcell hb3; have hz_hb3 := hb3.size; (try simp at hz_hb3)
    have lw3 : w.heap.size < w3.heap.size ∧ w.heap.size + 1 < w3.heap.size ∧ w.heap.size + 1 + 1 < w3.heap.size := by omega
    have hbw : Below w.heap.size w w3 := by (repeat (first | with_reducible exact Below.refl _ _ | with_reducible assumption | with_reducible refine Below.drew ?_ | with_reducible refine Below.drewN ?_ _ | with_reducible refine Below.alloc1 ?_ _ | with_reducible refine Below.setCell1 ?_ (by first | omega | (simp; done) | (simp; omega)) _ | with_reducible refine Below.step ?_ (by with_reducible assumption)))
    by_cases c1 : l < A
    · go_wp2_with fail
      exact bodyPost_ret (v := lsV X.1 X.2.1 X.2.2) (by rw [HX.out, if_pos c1]; simp only [results, Try.results51]; go_simp) rfl ⟨rfl, by (repeat (first | with_reducible exact Below.refl _ _ | with_reducible assumption | with_reducible refine Below.drew ?_ | with_reducible refine Below.drewN ?_ _ | with_reducible refine Below.alloc1 ?_ _ | with_reducible refine Below.setCell1 ?_ (by first | omega | (simp; done) | (simp; omega)) _ | with_reducible refine Below.step ?_ (by with_reducible assumption)))⟩
    · rcases Nat.eq_zero_or_pos l with hl0 | hl0
      · subst hl0
        have HX0 : Hid (X = (0, s, -1)) := by
          show _ = _
          rw [HX.out, if_neg c1, if_pos (Or.inl rfl)]; rfl
        go_wp2_with fail
        exact bodyPost_ret (v := lsV X.1 X.2.1 X.2.2) (by rw [HX0.out]; simp only [results, Try.results51]; go_simp) rfl ⟨rfl, by (repeat (first | with_reducible exact Below.refl _ _ | with_reducible assumption | with_reducible refine Below.drew ?_ | with_reducible refine Below.drewN ?_ _ | with_reducible refine Below.alloc1 ?_ _ | with_reducible refine Below.setCell1 ?_ (by first | omega | (simp; done) | (simp; omega)) _ | with_reducible refine Below.step ?_ (by with_reducible assumption)))⟩
      · obtain ⟨k, rfl⟩ : ∃ k, l = k + 1 := ⟨l - 1, by omega⟩
        have hk3 : k < 3 := by omega
        have hd := HLV.out k hk3
        have dc := dn_cell q0 hk3
        have HX2 : Hid (X = if dn k ≤ LD then (((k + 1 : Nat) : Int), s, -1) else if NW - (if v = -1 then NW else v) < hold then (((k + 1 : Nat) : Int), s, if v = -1 then NW else v) else (((k + 1 : Nat) : Int) - 1, NW, -1)) := by
          show _ = _
          rw [HX.out, if_neg c1]
          simp only [Nat.add_sub_cancel, show (k + 1 = 0) = False by simp, false_or]
        have HE : Hid (A = k + 1) := by show _ = _; omega
        by_cases c2 : dn k ≤ LD
        · go_wp2_with fail
          exact bodyPost_ret (v := lsV X.1 X.2.1 X.2.2) (by rw [HX2.out, if_pos c2]; simp only [results, Try.results51]; go_simp) rfl ⟨rfl, by (repeat (first | with_reducible exact Below.refl _ _ | with_reducible assumption | with_reducible refine Below.drew ?_ | with_reducible refine Below.drewN ?_ _ | with_reducible refine Below.alloc1 ?_ _ | with_reducible refine Below.setCell1 ?_ (by first | omega | (simp; done) | (simp; omega)) _ | with_reducible refine Below.step ?_ (by with_reducible assumption)))⟩
        · have HX3 : Hid (X = if NW - (if v = -1 then NW else v) < hold then (((k + 1 : Nat) : Int), s, if v = -1 then NW else v) else (((k + 1 : Nat) : Int) - 1, NW, -1)) := by rw [HX2.out, if_neg c2]; exact rfl
          replace c2 : LD < dn k := by omega
          by_cases c3 : v = -1
          · have c3' : (v == -1) = true := by simpa using c3
            have HV := hide c3
            have HX4 : Hid (X = if 0 < hold then (((k + 1 : Nat) : Int), s, NW) else (((k + 1 : Nat) : Int) - 1, NW, -1)) := by rw [HX3.out, if_pos c3, Int.sub_self]; exact rfl
            clear c3
            by_cases c4 : 0 < hold
            · go_wp2_with fail
              exact bodyPost_ret (v := lsV X.1 X.2.1 X.2.2) (by rw [HX4.out, if_pos c4]; simp only [results, Try.results51]; go_simp) rfl ⟨rfl, by (repeat (first | with_reducible exact Below.refl _ _ | with_reducible assumption | with_reducible refine Below.drew ?_ | with_reducible refine Below.drewN ?_ _ | with_reducible refine Below.alloc1 ?_ _ | with_reducible refine Below.setCell1 ?_ (by first | omega | (simp; done) | (simp; omega)) _ | with_reducible refine Below.step ?_ (by with_reducible assumption)))⟩
            · replace c4 : hold ≤ 0 := by omega
              go_wp2_with fail
              exact bodyPost_ret (v := lsV X.1 X.2.1 X.2.2) (by rw [HX4.out, if_neg (by omega)]; simp only [results, Try.results51]; go_simp) rfl ⟨rfl, by (repeat (first | with_reducible exact Below.refl _ _ | with_reducible assumption | with_reducible refine Below.drew ?_ | with_reducible refine Below.drewN ?_ _ | with_reducible refine Below.alloc1 ?_ _ | with_reducible refine Below.setCell1 ?_ (by first | omega | (simp; done) | (simp; omega)) _ | with_reducible refine Below.step ?_ (by with_reducible assumption)))⟩
          · have c3' : (v == -1) = false := by simpa using c3
            have HV := hide c3
            have HX4 : Hid (X = if NW - v < hold then (((k + 1 : Nat) : Int), s, v) else (((k + 1 : Nat) : Int) - 1, NW, -1)) := by rw [HX3.out, if_neg c3]; exact rfl
            clear c3
            by_cases c4 : NW - v < hold
            · go_wp2_with fail
              exact bodyPost_ret (v := lsV X.1 X.2.1 X.2.2) (by rw [HX4.out, if_pos c4]; simp only [results, Try.results51]; go_simp) rfl ⟨rfl, by (repeat (first | with_reducible exact Below.refl _ _ | with_reducible assumption | with_reducible refine Below.drew ?_ | with_reducible refine Below.drewN ?_ _ | with_reducible refine Below.alloc1 ?_ _ | with_reducible refine Below.setCell1 ?_ (by first | omega | (simp; done) | (simp; omega)) _ | with_reducible refine Below.step ?_ (by with_reducible assumption)))⟩
            · replace c4 : hold ≤ NW - v := by omega
              go_wp2_with fail
              exact bodyPost_ret (v := lsV X.1 X.2.1 X.2.2) (by rw [HX4.out, if_neg (by omega)]; simp only [results, Try.results51]; go_simp) rfl ⟨rfl, by (repeat (first | with_reducible exact Below.refl _ _ | with_reducible assumption | with_reducible refine Below.drew ?_ | with_reducible refine Below.drewN ?_ _ | with_reducible refine Below.alloc1 ?_ _ | with_reducible refine Below.setCell1 ?_ (by first | omega | (simp; done) | (simp; omega)) _ | with_reducible refine Below.step ?_ (by with_reducible assumption)))⟩


theorem level_Step_any (up dn : Nat → Int) (hold l s v load now : Int) (w : World) :
    Calls Try.prog 51 #[lcV up dn hold, lsV l s v, .int .i64 load, .int .i64 now] w fun e w' =>
      e = .returned (lsV (vStep up dn hold l s v load now).1 (vStep up dn hold l s v load now).2.1 (vStep up dn hold l s v load now).2.2) ∧ Below w.heap.size w w' := by
  cases hm : vMay up dn hold l s v
  · have e : vStep up dn hold l s v load now = (l, s, v) := by unfold vStep; rw [hm]; rfl
    rw [e]; exact level_Step_no hm load now w
  · have hm2 := hm
    simp only [vMay, Bool.and_eq_true, beq_iff_eq] at hm2
    have hf := vFine_t hm2.2
    obtain ⟨k, rfl⟩ : ∃ k : Nat, l = k := ⟨l.toNat, by omega⟩
    have e : vStep up dn hold k s v load now = vStep1 up dn hold k s v (vHeld load 0 100) (vHeld now (max s v) 1099511627776) := by unfold vStep; rw [hm, if_pos rfl, Int.toNat_natCast]
    rw [e]; exact level_Step_yes hm2.1 hm2.2 load now w
theorem level_Step_is {up dn : Nat → Int} {hold l s v load now : Int} {x : Int × Int × Int} (h : vStep up dn hold l s v load now = x) (w : World) :
    Calls Try.prog 51 #[lcV up dn hold, lsV l s v, .int .i64 load, .int .i64 now] w fun e w' => e = .returned (lsV x.1 x.2.1 x.2.2) ∧ Below w.heap.size w w' := by
  subst h; exact level_Step_any up dn hold l s v load now w

end Go.Proofs.Ytolpiaehleefbaa
