/- Contracts of package level: each function computes the plain function of the same name below. -/
import Derived.Test.YtbajakifkidccaaRows
import Derived.Test.YtbajakifkidccaaMem
import Derived.Test.YtbajakifkidccaaRel2
import Derived.OwnWalk
namespace Go.Proofs.Ytbajakifkidccaa
open Go.RowKit
set_option linter.unusedSimpArgs false
set_option linter.unusedVariables false

/-! The plain functions. -/
def vIn (n a b : Int) : Bool := decide (a ≤ n) && decide (n ≤ b)
theorem vIn_t {n a b : Int} (h : vIn n a b = true) : a ≤ n ∧ n ≤ b := by simpa [vIn] using h
theorem vIn_f {n a b : Int} (h : vIn n a b = false) : n < a ∨ b < n := by simp [vIn] at h; omega
def vOk1 (up dn : Nat → Int) (k : Nat) : Bool := vIn (up k) 0 100 && vIn (dn k) 0 100
def vPrev (f : Nat → Int) : Nat → Int
  | 0 => 0
  | k + 1 => f k
def vOk2 (up dn : Nat → Int) (k : Nat) : Bool := decide (vPrev up k ≤ up k) && decide (vPrev dn k ≤ dn k) && decide (dn k ≤ up k)
def vLoads (up dn : Nat → Int) : Bool := vOk1 up dn 0 && vOk1 up dn 1 && vOk1 up dn 2
def vOrder (up dn : Nat → Int) : Bool := vOk2 up dn 0 && vOk2 up dn 1 && vOk2 up dn 2
def vCheck (up dn : Nat → Int) (hold : Int) : Int := if vLoads up dn && vIn hold 0 1000 then (if vOrder up dn then 0 else 10) else 8
def vFine (l s w : Int) : Bool := vIn l 0 3 && vIn s 0 1099511627776 && vIn w (-1) 1099511627776
def vHeld (n a b : Int) : Int := min (max n a) b
/-- the level that a load asks for, from one on (at most f steps) -/
def vAsk (up : Nat → Int) (load : Int) : Nat → Nat → Nat
  | 0, l => l
  | f + 1, l => if l < 3 ∧ up l ≤ load then vAsk up load f (l + 1) else l
def vAsked (up : Nat → Int) (load : Int) (l : Nat) : Nat := vAsk up load (3 - l) l
theorem vAsked_step {up : Nat → Int} {load : Int} {l : Nat} (h : l < 3) (hu : up l ≤ load) : vAsked up load l = vAsked up load (l + 1) := by
  unfold vAsked; rw [show 3 - l = (3 - (l + 1)) + 1 by omega, vAsk, if_pos ⟨h, hu⟩]
theorem vAsked_stop {up : Nat → Int} {load : Int} {l : Nat} (hu : load < up l) : vAsked up load l = l := by
  unfold vAsked
  cases h : 3 - l with
  | zero => rfl
  | succ f => rw [vAsk, if_neg (by omega)]
theorem vAsked_top {up : Nat → Int} {load : Int} {l : Nat} (h : 3 ≤ l) : vAsked up load l = l := by
  unfold vAsked; rw [show 3 - l = 0 by omega]; rfl
theorem vAsked_le (up : Nat → Int) (load : Int) (l : Nat) : l ≤ vAsked up load l ∧ (l ≤ 3 → vAsked up load l ≤ 3) := by
  unfold vAsked
  suffices h : ∀ f m, m + f = max m 3 ∨ m + f ≤ 3 → m ≤ vAsk up load f m ∧ (m ≤ 3 → vAsk up load f m ≤ 3) by
    exact h _ _ (by omega)
  intro f
  induction f with
  | zero => intro m _; exact ⟨Nat.le_refl _, fun h => h⟩
  | succ f ih =>
    intro m hm
    unfold vAsk
    split
    · rename_i hc
      have := ih (m + 1) (by omega)
      exact ⟨by omega, fun h => this.2 (by omega)⟩
    · exact ⟨Nat.le_refl _, fun h => h⟩
/-- level, since, low behind a load that may be, of a state that may be -/
def vStep1 (up dn : Nat → Int) (hold : Int) (l : Nat) (s w load now : Int) : Int × Int × Int :=
  if l < vAsked up load l then (vAsked up load l, now, -1)
  else if l = 0 ∨ dn (l - 1) ≤ load then (l, s, -1)
  else if now - (if w = -1 then now else w) < hold then (l, s, if w = -1 then now else w)
  else (l - 1, now, -1)
def vMay (up dn : Nat → Int) (hold l s w : Int) : Bool := (vCheck up dn hold == 0) && vFine l s w
def vStep (up dn : Nat → Int) (hold l s w load now : Int) : Int × Int × Int :=
  if vMay up dn hold l s w then vStep1 up dn hold l.toNat s w (vHeld load 0 100) (vHeld now (max s w) 1099511627776) else (l, s, w)
abbrev lcV (up dn : Nat → Int) (hold : Int) : Value := .agg #[.int .i64 (up 0), .int .i64 (up 1), .int .i64 (up 2), .int .i64 (dn 0), .int .i64 (dn 1), .int .i64 (dn 2), .int .i64 hold]
abbrev lcC (up dn : Nat → Int) (hold : Int) : List Value := [.int .i64 (up 0), .int .i64 (up 1), .int .i64 (up 2), .int .i64 (dn 0), .int .i64 (dn 1), .int .i64 (dn 2), .int .i64 hold]
abbrev lsV (l s w : Int) : Value := .agg #[.int .i64 l, .int .i64 s, .int .i64 w]
abbrev lsC (l s w : Int) : List Value := [.int .i64 l, .int .i64 s, .int .i64 w]
theorem up_cell {w : World} {g : Nat} {t : TypeId} {up dn : Nat → Int} {hold : Int} (h : Bk w g t (lcC up dn hold)) {k : Nat} (hk : k < 3) : w.cell? ⟨g, k, none⟩ = some (.int .i64 (up k)) := by
  rw [h.cell]
  match k, hk with
  | 0, _ => rfl
  | 1, _ => rfl
  | 2, _ => rfl
theorem dn_cell {w : World} {g : Nat} {t : TypeId} {up dn : Nat → Int} {hold : Int} (h : Bk w g t (lcC up dn hold)) {k : Nat} (hk : k < 3) : w.cell? ⟨g, 3 + k, none⟩ = some (.int .i64 (dn k)) := by
  rw [h.cell]
  match k, hk with
  | 0, _ => rfl
  | 1, _ => rfl
  | 2, _ => rfl
theorem three {P : Nat → Prop} (h : ∀ k, k < 3 → P k) : P 0 ∧ P 1 ∧ P 2 := ⟨h 0 (by omega), h 1 (by omega), h 2 (by omega)⟩
theorem vLoads_t {up dn : Nat → Int} (h : ∀ k, k < 3 → vOk1 up dn k = true) : vLoads up dn = true := by
  simp [vLoads, h 0 (by omega), h 1 (by omega), h 2 (by omega)]
theorem vLoads_f {up dn : Nat → Int} {k : Nat} (hk : k < 3) (h : vOk1 up dn k = false) : vLoads up dn = false := by
  have h4 : k = 0 ∨ k = 1 ∨ k = 2 := by omega
  rcases h4 with rfl | rfl | rfl <;> simp [vLoads, h]
theorem vOrder_t {up dn : Nat → Int} (h : ∀ k, k < 3 → vOk2 up dn k = true) : vOrder up dn = true := by
  simp [vOrder, h 0 (by omega), h 1 (by omega), h 2 (by omega)]
theorem vOrder_f {up dn : Nat → Int} {k : Nat} (hk : k < 3) (h : vOk2 up dn k = false) : vOrder up dn = false := by
  have h4 : k = 0 ∨ k = 1 ∨ k = 2 := by omega
  rcases h4 with rfl | rfl | rfl <;> simp [vOrder, h]
theorem vLoads_of {up dn : Nat → Int} (h : vLoads up dn = true) {k : Nat} (hk : k < 3) : (0 ≤ up k ∧ up k ≤ 100) ∧ 0 ≤ dn k ∧ dn k ≤ 100 := by
  simp only [vLoads, vOk1, Bool.and_eq_true] at h
  have h4 : k = 0 ∨ k = 1 ∨ k = 2 := by omega
  rcases h4 with rfl | rfl | rfl
  · exact ⟨vIn_t h.1.1.1, vIn_t h.1.1.2⟩
  · exact ⟨vIn_t h.1.2.1, vIn_t h.1.2.2⟩
  · exact ⟨vIn_t h.2.1, vIn_t h.2.2⟩
theorem vCheck_cases (up dn : Nat → Int) (hold : Int) : vCheck up dn hold = 0 ∨ vCheck up dn hold = 8 ∨ vCheck up dn hold = 10 := by
  unfold vCheck; split <;> (try split) <;> simp
theorem vCheck_t {up dn : Nat → Int} {hold : Int} (h : vCheck up dn hold = 0) : (vLoads up dn = true ∧ 0 ≤ hold ∧ hold ≤ 1000) ∧ vOrder up dn = true := by
  unfold vCheck at h
  split at h
  · rename_i h1
    split at h
    · rename_i h2
      simp only [Bool.and_eq_true] at h1
      exact ⟨⟨h1.1, vIn_t h1.2⟩, h2⟩
    · omega
  · omega
theorem vFine_t {l s w : Int} (h : vFine l s w = true) : (0 ≤ l ∧ l ≤ 3) ∧ (0 ≤ s ∧ s ≤ 1099511627776) ∧ -1 ≤ w ∧ w ≤ 1099511627776 := by
  simp only [vFine, Bool.and_eq_true] at h; exact ⟨vIn_t h.1.1, vIn_t h.1.2, vIn_t h.2⟩

theorem level_in_any (n a b : Int) (w : World) :
    Calls Try.prog 29 #[.int .i64 n, .int .i64 a, .int .i64 b] w fun e w' => e = .returned (.bool (vIn n a b)) ∧ w = w' := by
  by_cases h1 : a ≤ n <;> by_cases h2 : n ≤ b
  all_goals
    go_enter Try.func29, Try.ntmps29
    go_wp2
    go_ret
    exact ⟨ret_bool (by simp [vIn, *]), rfl⟩
theorem level_in_is {n a b : Int} {v : Bool} (h : vIn n a b = v) (w : World) :
    Calls Try.prog 29 #[.int .i64 n, .int .i64 a, .int .i64 b] w fun e w' => e = .returned (.bool v) ∧ w = w' := by
  subst h; exact level_in_any n a b w
theorem level_held_any (n a b : Int) (w : World) :
    Calls Try.prog 25 #[.int .i64 n, .int .i64 a, .int .i64 b] w fun e w' => e = .returned (.int .i64 (vHeld n a b)) ∧ w = w' := by
  go_enter Try.func25, Try.ntmps25
  go_wp2
  all_goals go_ret
  all_goals exact ⟨ret_int (by unfold vHeld; omega), rfl⟩

theorem idx3_0 (f : Nat → Int) (w : World) : (Instr.index 22 (.agg #[.int .i64 (f 0), .int .i64 (f 1), .int .i64 (f 2)]) (.int .i64 ((0 : Nat) : Int))).run Try.prog w = .ok (.int .i64 (f 0)) w := by kernel_rfl
theorem idx3_1 (f : Nat → Int) (w : World) : (Instr.index 22 (.agg #[.int .i64 (f 0), .int .i64 (f 1), .int .i64 (f 2)]) (.int .i64 ((1 : Nat) : Int))).run Try.prog w = .ok (.int .i64 (f 1)) w := by kernel_rfl
theorem idx3_2 (f : Nat → Int) (w : World) : (Instr.index 22 (.agg #[.int .i64 (f 0), .int .i64 (f 1), .int .i64 (f 2)]) (.int .i64 ((2 : Nat) : Int))).run Try.prog w = .ok (.int .i64 (f 2)) w := by kernel_rfl
theorem idx3 (f : Nat → Int) {k : Nat} (hk : k < 3) (w : World) : (Instr.index 22 (.agg #[.int .i64 (f 0), .int .i64 (f 1), .int .i64 (f 2)]) (.int .i64 k)).run Try.prog w = .ok (.int .i64 (f k)) w := by
  have h : k = 0 ∨ k = 1 ∨ k = 2 := by omega
  rcases h with rfl | rfl | rfl
  · exact idx3_0 f w
  · exact idx3_1 f w
  · exact idx3_2 f w

set_option maxHeartbeats 1000000 in
theorem level_loads_any (up dn : Nat → Int) (hold : Int) (w : World) :
    Calls Try.prog 28 #[lcV up dn hold] w fun e w' => e = .returned (.bool (vLoads up dn)) ∧ Below w.heap.size w w' := by
  go_enter Try.func28, Try.ntmps28
  go_wp2_with fail
  generalize hW : World.alloc w _ = w1
  have hb1 : Below w.heap.size w w1 := by subst hW; (repeat (first | with_reducible exact Below.refl _ _ | with_reducible assumption | with_reducible refine Below.drew ?_ | with_reducible refine Below.drewN ?_ _ | with_reducible refine Below.alloc1 ?_ _ | with_reducible refine Below.setCell1 ?_ (by first | omega | (simp; done) | (simp; omega)) _ | with_reducible refine Below.step ?_ (by with_reducible assumption)))
  have k0 : Bk w1 w.heap.size 28 (lcC up dn hold) := by subst hW; (repeat (first | with_reducible exact Bk.new' _ _ _ _ (by simp; done) | with_reducible assumption | with_reducible refine Bk.alloc ?_ _ | with_reducible refine Bk.drew ?_ | with_reducible refine Bk.drewN ?_ _ | with_reducible refine Bk.step ?_ (by with_reducible assumption) | with_reducible refine Bk.far ?_ (by first | omega | (simp; done) | (simp; omega)) _))
  have lk := k0.lt
  clear hW
  have k0_0 := k0.cell 0; have k0_f0 := k0.frozen 0; have k0_1 := k0.cell 1; have k0_f1 := k0.frozen 1; have k0_2 := k0.cell 2; have k0_f2 := k0.frozen 2; have k0_3 := k0.cell 3; have k0_f3 := k0.frozen 3; have k0_4 := k0.cell 4; have k0_f4 := k0.frozen 4; have k0_5 := k0.cell 5; have k0_f5 := k0.frozen 5; have k0_6 := k0.cell 6; have k0_f6 := k0.frozen 6; simp only [List.set_cons_zero, List.set_cons_succ, List.getElem?_cons_zero, List.getElem?_cons_succ] at k0_0 k0_1 k0_2 k0_3 k0_4 k0_5 k0_6
  go_loopw [7] (fun i wr => ∃ k : Nat, k ≤ 3 ∧ i = .int .i64 k ∧ (∀ j, j < k → vOk1 up dn j = true) ∧ wr = w1) (fun i _ => 3 - (intOf i).toNat)
  case atStart => exact ⟨0, by omega, rfl, by omega, rfl⟩
  case round =>
    obtain ⟨k, hk, rfl, hok, rfl⟩ := hrel
    by_cases hlt : k < 3
    · have c2 := dn_cell k0 hlt
      have i1 : ∀ w, _ := fun w => idx3 up hlt w
      cases e1 : vIn (up k) 0 100 <;> cases e2 : vIn (dn k) 0 100
      case true.true =>
        have hok' : ∀ j, j < k + 1 → vOk1 up dn j = true := fun j hj => by
          rcases Nat.lt_or_ge j k with h | h
          · exact hok j h
          · obtain rfl : j = k := by omega
            simp [vOk1, e1, e2]
        go_wp2_with (go_at_call 29; (first | with_reducible refine (level_in_is e1 _).mono ?_ | with_reducible refine (level_in_is e2 _).mono ?_); rintro e w' ⟨rfl, rfl⟩)
        go_roundw
        case rel => exact ⟨k + 1, by omega, by go_num, hok', by first | rfl | trivial⟩
        case measure => simp [intOf]; omega
      all_goals
        have hno : vOk1 up dn k = false := by simp [vOk1, e1, e2]
        have hc : vLoads up dn = false := vLoads_f hlt hno
        clear hno
        go_wp2_with (go_at_call 29; (first | with_reducible refine (level_in_is e1 _).mono ?_ | with_reducible refine (level_in_is e2 _).mono ?_); rintro e w' ⟨rfl, rfl⟩)
        go_ret
        exact ⟨ret_bool hc.symm, hb1⟩
    · have hc : vLoads up dn = true := vLoads_t fun j hj => hok j (by omega)
      go_wp2_with fail
      go_ret
      exact ⟨ret_bool hc.symm, hb1⟩
theorem level_loads_is {up dn : Nat → Int} {hold : Int} {v : Bool} (h : vLoads up dn = v) (w : World) :
    Calls Try.prog 28 #[lcV up dn hold] w fun e w' => e = .returned (.bool v) ∧ Below w.heap.size w w' := by
  subst h; exact level_loads_any up dn hold w
end Go.Proofs.Ytbajakifkidccaa
