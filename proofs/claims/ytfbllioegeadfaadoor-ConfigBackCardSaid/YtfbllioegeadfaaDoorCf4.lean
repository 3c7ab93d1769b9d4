/- Package config and its reference: in, Check. -/
import Derived.Test.YtfbllioegeadfaaDoorCk
import Derived.Test.YtfbllioegeadfaaDoorCfM
namespace Go.Proofs.YtfbllioegeadfaaDoor
open Go.RowKit
set_option linter.unusedSimpArgs false
set_option linter.unusedVariables false

structure CC where
  a : AC
  ce : Int
  qu : Int
  tot : Int
  ba : Int
  cr : Int
abbrev ccC (ab ar eb er : Int) (up dn : Nat → Int) (hold : Int) (lo hi : Nat → Int) (ce qu tot ba cr : Int) : List Value := [.int .i64 ab, .int .i64 ar, .int .i64 eb, .int .i64 er, .int .i64 (up 0), .int .i64 (up 1), .int .i64 (up 2), .int .i64 (dn 0), .int .i64 (dn 1), .int .i64 (dn 2), .int .i64 hold, .int .i64 (lo 0), .int .i64 (lo 1), .int .i64 (lo 2), .int .i64 (lo 3), .int .i64 (hi 0), .int .i64 (hi 1), .int .i64 (hi 2), .int .i64 (hi 3), .int .i64 ce, .int .i64 qu, .int .i64 tot, .int .i64 ba, .int .i64 cr]
abbrev CC.C (c : CC) : List Value := ccC c.a.ab c.a.ar c.a.eb c.a.er c.a.up c.a.dn c.a.hold c.a.lo c.a.hi c.ce c.qu c.tot c.ba c.cr
abbrev CC.V (c : CC) : Value := .agg #[.int .i64 c.a.ab, .int .i64 c.a.ar, .int .i64 c.a.eb, .int .i64 c.a.er, .int .i64 (c.a.up 0), .int .i64 (c.a.up 1), .int .i64 (c.a.up 2), .int .i64 (c.a.dn 0), .int .i64 (c.a.dn 1), .int .i64 (c.a.dn 2), .int .i64 c.a.hold, .int .i64 (c.a.lo 0), .int .i64 (c.a.lo 1), .int .i64 (c.a.lo 2), .int .i64 (c.a.lo 3), .int .i64 (c.a.hi 0), .int .i64 (c.a.hi 1), .int .i64 (c.a.hi 2), .int .i64 (c.a.hi 3), .int .i64 c.ce, .int .i64 c.qu, .int .i64 c.tot, .int .i64 c.ba, .int .i64 c.cr]
def cIns (c : CC) : Bool := vIn c.ce 1 4096 && vIn c.qu 128 4096 && vIn c.tot 256 65536 && vIn c.ba 1 64 && vIn c.cr 128 65536
def cCheck (c : CC) : Int := if aCheck c.a ≠ 0 then aCheck c.a else if cIns c then 0 else 8
theorem config_in_any (n a b : Int) (w : World) :
    Calls Tryd.prog 25 #[.int .i64 n, .int .i64 a, .int .i64 b] w fun e w' => e = .returned (.bool (vIn n a b)) ∧ w = w' := by
  by_cases h1 : a ≤ n <;> by_cases h2 : n ≤ b
  all_goals
    go_enter Tryd.func25, Tryd.ntmps25
    go_wp2
    go_ret
    exact ⟨ret_bool (by simp [vIn, *]), rfl⟩
theorem config_in_is {n a b : Int} {v : Bool} (h : vIn n a b = v) (w : World) :
    Calls Tryd.prog 25 #[.int .i64 n, .int .i64 a, .int .i64 b] w fun e w' => e = .returned (.bool v) ∧ w = w' := by
  subst h; exact config_in_any n a b w
theorem r32_in_any (n a b : Int) (w : World) :
    Calls Tryd.prog 35 #[.int .i64 n, .int .i64 a, .int .i64 b] w fun e w' => e = .returned (.bool (vIn n a b)) ∧ w = w' := by
  by_cases h1 : a ≤ n <;> by_cases h2 : n ≤ b
  all_goals
    go_enter Tryd.func35, Tryd.ntmps35
    go_wp2
    go_ret
    exact ⟨ret_bool (by simp [vIn, *]), rfl⟩
theorem r32_in_is {n a b : Int} {v : Bool} (h : vIn n a b = v) (w : World) :
    Calls Tryd.prog 35 #[.int .i64 n, .int .i64 a, .int .i64 b] w fun e w' => e = .returned (.bool v) ∧ w = w' := by
  subst h; exact r32_in_any n a b w
/-- the first number that does not lie between its ends -/
theorem ins_ways (ce qu tot ba cr : Int) :
    (vIn ce 1 4096 = false) ∨ (vIn ce 1 4096 = true ∧ vIn qu 128 4096 = false) ∨ (vIn ce 1 4096 = true ∧ vIn qu 128 4096 = true ∧ vIn tot 256 65536 = false) ∨
    (vIn ce 1 4096 = true ∧ vIn qu 128 4096 = true ∧ vIn tot 256 65536 = true ∧ vIn ba 1 64 = false) ∨ (vIn ce 1 4096 = true ∧ vIn qu 128 4096 = true ∧ vIn tot 256 65536 = true ∧ vIn ba 1 64 = true ∧ vIn cr 128 65536 = false) ∨
    (vIn ce 1 4096 = true ∧ vIn qu 128 4096 = true ∧ vIn tot 256 65536 = true ∧ vIn ba 1 64 = true ∧ vIn cr 128 65536 = true) := by
  cases vIn ce 1 4096 <;> cases vIn qu 128 4096 <;> cases vIn tot 256 65536 <;> cases vIn ba 1 64 <;> cases vIn cr 128 65536 <;> simp
set_option maxRecDepth 100000 in
set_option maxHeartbeats 8000000 in
theorem config_Check_any (c : CC) (w : World) : Calls Tryd.prog 12 #[c.V] w fun e w' => e = .returned (.int .i64 (cCheck c)) ∧ Below w.heap.size w w' := by
  have h1 := fun W => admit_Check_any c.a W
  have HC := hide (show cCheck c = if aCheck c.a ≠ 0 then aCheck c.a else if (vIn c.ce 1 4096 && vIn c.qu 128 4096 && vIn c.tot 256 65536 && vIn c.ba 1 64 && vIn c.cr 128 65536) then 0 else 8 from rfl)
  generalize aCheck c.a = v1 at *
  unfold CC.V
  generalize cCheck c = R at *
  obtain ⟨⟨ab, ar, eb, er, up, dn, hold, lo, hi⟩, ce, qu, tot, ba, cr⟩ := c
  dsimp only at *
  go_enter Tryd.func12, Tryd.ntmps12
  go_upto_region 1 with fail
  generalize hV : World.alloc w _ = w1
  have hb1 : Below w.heap.size w w1 := by subst hV; (repeat (first | with_reducible exact Below.refl _ _ | with_reducible assumption | with_reducible refine Below.drew ?_ | with_reducible refine Below.drewN ?_ _ | with_reducible refine Below.alloc1 ?_ _ | with_reducible refine Below.setCell1 ?_ (by first | omega | (simp; done) | (simp; omega)) _ | with_reducible refine Below.step ?_ (by with_reducible assumption)))
  have k0 : Bk w1 w.heap.size 34 (ccC ab ar eb er up dn hold lo hi ce qu tot ba cr) := by subst hV; (repeat (first | with_reducible exact Bk.new' _ _ _ _ (by simp; done) | with_reducible assumption | with_reducible refine Bk.alloc ?_ _ | with_reducible refine Bk.drew ?_ | with_reducible refine Bk.drewN ?_ _ | with_reducible refine Bk.step ?_ (by with_reducible assumption) | with_reducible refine Bk.far ?_ (by first | omega | (simp; done) | (simp; omega)) _))
  clear hV
  go_wp2_with (first | (refine wpList_load_sub 32 _ rfl _ 0 rfl _ _ k0 (acC ab ar eb er up dn hold lo hi) rfl _ Tryd.underlying32 rfl (by kernel_rfl) (by kernel_rfl) ?_) | fail)
  refine (h1 _).mono ?_; rintro e x0 ⟨rfl, hx⟩
  replace k0 := k0.step hx
  replace hb1 : Below w.heap.size w x0 := hb1.step hx
  clear hx h1
  have q1 : x0.cell? ⟨w.heap.size, 19, none⟩ = some (.int .i64 ce) := k0.cell 19
  have q2 : x0.cell? ⟨w.heap.size, 20, none⟩ = some (.int .i64 qu) := k0.cell 20
  have q3 : x0.cell? ⟨w.heap.size, 21, none⟩ = some (.int .i64 tot) := k0.cell 21
  have q4 : x0.cell? ⟨w.heap.size, 22, none⟩ = some (.int .i64 ba) := k0.cell 22
  have q5 : x0.cell? ⟨w.heap.size, 23, none⟩ = some (.int .i64 cr) := k0.cell 23
  have lt0 := k0.lt
  clear k0
  by_cases e1 : v1 = 0
  case neg =>
    rw [if_pos e1] at HC
    have e1' : (v1 != 0) = true := by simp [e1]
    go_wp2
    go_ret
    exact ⟨by rw [HC.out]; rfl, hb1⟩
  subst e1
  rw [if_neg (by simp)] at HC
  rcases ins_ways ce qu tot ba cr with ways
  rcases ways with i1 | ⟨i1, i2⟩ | ⟨i1, i2, i3⟩ | ⟨i1, i2, i3, i4⟩ | ⟨i1, i2, i3, i4, i5⟩ | ⟨i1, i2, i3, i4, i5⟩
  all_goals
    simp only [*, Bool.and_true, Bool.true_and, Bool.and_false, Bool.false_and] at HC
    try replace i1 := hide i1
    try replace i2 := hide i2
    try replace i3 := hide i3
    try replace i4 := hide i4
    try replace i5 := hide i5
    go_wp2_with (first
      | (go_at_call 25; with_reducible refine (config_in_is i1.out _).mono ?_; rintro e w' ⟨rfl, rfl⟩)
      | (go_at_call 25; with_reducible refine (config_in_is i2.out _).mono ?_; rintro e w' ⟨rfl, rfl⟩)
      | (go_at_call 25; with_reducible refine (config_in_is i3.out _).mono ?_; rintro e w' ⟨rfl, rfl⟩)
      | (go_at_call 25; with_reducible refine (config_in_is i4.out _).mono ?_; rintro e w' ⟨rfl, rfl⟩)
      | (go_at_call 25; with_reducible refine (config_in_is i5.out _).mono ?_; rintro e w' ⟨rfl, rfl⟩))
    go_ret
    exact ⟨by rw [HC.out]; rfl, hb1⟩
set_option maxRecDepth 100000 in
set_option maxHeartbeats 8000000 in
theorem r32_Check_any (c : CC) (w : World) : Calls Tryd.prog 19 #[c.V] w fun e w' => e = .returned (.int .i64 (cCheck c)) ∧ Below w.heap.size w w' := by
  have h1 := fun W => r18_Check_any c.a W
  have HC := hide (show cCheck c = if aCheck c.a ≠ 0 then aCheck c.a else if (vIn c.ce 1 4096 && vIn c.qu 128 4096 && vIn c.tot 256 65536 && vIn c.ba 1 64 && vIn c.cr 128 65536) then 0 else 8 from rfl)
  generalize aCheck c.a = v1 at *
  unfold CC.V
  generalize cCheck c = R at *
  obtain ⟨⟨ab, ar, eb, er, up, dn, hold, lo, hi⟩, ce, qu, tot, ba, cr⟩ := c
  dsimp only at *
  go_enter Tryd.func19, Tryd.ntmps19
  go_upto_region 1 with fail
  generalize hV : World.alloc w _ = w1
  have hb1 : Below w.heap.size w w1 := by subst hV; (repeat (first | with_reducible exact Below.refl _ _ | with_reducible assumption | with_reducible refine Below.drew ?_ | with_reducible refine Below.drewN ?_ _ | with_reducible refine Below.alloc1 ?_ _ | with_reducible refine Below.setCell1 ?_ (by first | omega | (simp; done) | (simp; omega)) _ | with_reducible refine Below.step ?_ (by with_reducible assumption)))
  have k0 : Bk w1 w.heap.size 44 (ccC ab ar eb er up dn hold lo hi ce qu tot ba cr) := by subst hV; (repeat (first | with_reducible exact Bk.new' _ _ _ _ (by simp; done) | with_reducible assumption | with_reducible refine Bk.alloc ?_ _ | with_reducible refine Bk.drew ?_ | with_reducible refine Bk.drewN ?_ _ | with_reducible refine Bk.step ?_ (by with_reducible assumption) | with_reducible refine Bk.far ?_ (by first | omega | (simp; done) | (simp; omega)) _))
  clear hV
  go_wp2_with (first | (refine wpList_load_sub 42 _ rfl _ 0 rfl _ _ k0 (acC ab ar eb er up dn hold lo hi) rfl _ Tryd.underlying42 rfl (by kernel_rfl) (by kernel_rfl) ?_) | fail)
  refine (h1 _).mono ?_; rintro e x0 ⟨rfl, hx⟩
  replace k0 := k0.step hx
  replace hb1 : Below w.heap.size w x0 := hb1.step hx
  clear hx
  by_cases e1 : v1 = 0
  case neg =>
    rw [if_pos e1] at HC
    have e1' : (v1 != 0) = true := by simp [e1]
    have e1'' : ¬ v1 = 0 := e1
    go_wp2_with (first | (refine wpList_load_sub 42 _ rfl _ 0 rfl _ _ k0 (acC ab ar eb er up dn hold lo hi) rfl _ Tryd.underlying42 rfl (by kernel_rfl) (by kernel_rfl) ?_) | fail)
    refine (h1 _).mono ?_; rintro e x1 ⟨rfl, hx⟩
    replace hb1 : Below w.heap.size w x1 := hb1.step hx
    go_wp2
    go_ret
    exact ⟨by rw [HC.out]; rfl, hb1⟩
  clear h1
  have q1 : x0.cell? ⟨w.heap.size, 19, none⟩ = some (.int .i64 ce) := k0.cell 19
  have q2 : x0.cell? ⟨w.heap.size, 20, none⟩ = some (.int .i64 qu) := k0.cell 20
  have q3 : x0.cell? ⟨w.heap.size, 21, none⟩ = some (.int .i64 tot) := k0.cell 21
  have q4 : x0.cell? ⟨w.heap.size, 22, none⟩ = some (.int .i64 ba) := k0.cell 22
  have q5 : x0.cell? ⟨w.heap.size, 23, none⟩ = some (.int .i64 cr) := k0.cell 23
  have lt0 := k0.lt
  clear k0
  subst e1
  rw [if_neg (by simp)] at HC
  rcases ins_ways ce qu tot ba cr with ways
  rcases ways with i1 | ⟨i1, i2⟩ | ⟨i1, i2, i3⟩ | ⟨i1, i2, i3, i4⟩ | ⟨i1, i2, i3, i4, i5⟩ | ⟨i1, i2, i3, i4, i5⟩
  all_goals
    simp only [*, Bool.and_true, Bool.true_and, Bool.and_false, Bool.false_and] at HC
    try replace i1 := hide i1
    try replace i2 := hide i2
    try replace i3 := hide i3
    try replace i4 := hide i4
    try replace i5 := hide i5
    go_wp2_with (first
      | (go_at_call 35; with_reducible refine (r32_in_is i1.out _).mono ?_; rintro e w' ⟨rfl, rfl⟩)
      | (go_at_call 35; with_reducible refine (r32_in_is i2.out _).mono ?_; rintro e w' ⟨rfl, rfl⟩)
      | (go_at_call 35; with_reducible refine (r32_in_is i3.out _).mono ?_; rintro e w' ⟨rfl, rfl⟩)
      | (go_at_call 35; with_reducible refine (r32_in_is i4.out _).mono ?_; rintro e w' ⟨rfl, rfl⟩)
      | (go_at_call 35; with_reducible refine (r32_in_is i5.out _).mono ?_; rintro e w' ⟨rfl, rfl⟩))
    go_ret
    exact ⟨by rw [HC.out]; rfl, hb1⟩
end Go.Proofs.YtfbllioegeadfaaDoor
