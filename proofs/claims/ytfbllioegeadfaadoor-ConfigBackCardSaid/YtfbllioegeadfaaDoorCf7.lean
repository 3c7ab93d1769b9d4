/- Package config: Same; Rounds and Bound of the usual config. -/
import Derived.Test.YtfbllioegeadfaaDoorCf6
namespace Go.Proofs.YtfbllioegeadfaaDoor
open Go.RowKit
set_option linter.unusedSimpArgs false
set_option linter.unusedVariables false

theorem eqs_own (c d : CC) (w : World) : (Op.equalIn 10000 34 c.V d.V).run Tryd.prog w = .ok (cSame c d) w := by
  have h := eql_own c d w
  rw [run_eql_struct] at h
  revert h
  cases (Op.equalIn 10000 34 c.V d.V).run Tryd.prog w with
  | ok b w' => intro h; simp at h; rw [h.1, h.2]
  | halt x w' => intro h; simp [Result.andThen] at h
theorem eqs_ref (c d : CC) (w : World) : (Op.equalIn 10000 44 c.V d.V).run Tryd.prog w = .ok (cSame c d) w := by
  have h := eql_ref c d w
  rw [run_eql_struct] at h
  revert h
  cases (Op.equalIn 10000 44 c.V d.V).run Tryd.prog w with
  | ok b w' => intro h; simp at h; rw [h.1, h.2]
  | halt x w' => intro h; simp [Result.andThen] at h
set_option maxRecDepth 100000 in
set_option maxHeartbeats 4000000 in
theorem config_Same_any (c d : CC) (w : World) : Calls Tryd.prog 11 #[c.V, d.V] w fun e w' => e = .returned (.bool (cSame c d)) ∧ Below w.heap.size w w' := by
  have hE := fun w => eqs_own c d w
  go_enter Tryd.func11, Tryd.ntmps11
  go_upto_region 1 with fail
  generalize hV : World.alloc (World.alloc w _) _ = w1
  have hb1 : Below w.heap.size w w1 := by subst hV; (repeat (first | with_reducible exact Below.refl _ _ | with_reducible assumption | with_reducible refine Below.drew ?_ | with_reducible refine Below.drewN ?_ _ | with_reducible refine Below.alloc1 ?_ _ | with_reducible refine Below.setCell1 ?_ (by first | omega | (simp; done) | (simp; omega)) _ | with_reducible refine Below.step ?_ (by with_reducible assumption)))
  have k0 : Bk w1 w.heap.size 34 c.C := by subst hV; exact (Bk.new w _ _).alloc _
  have k1 : Bk w1 (w.heap.size + 1) 34 d.C := by subst hV; exact Bk.new' _ _ _ _ (by simp)
  clear hV
  go_wp2_with (first | (refine wpList_load_row rfl 34 _ rfl _ rfl _ _ (0, 0) _ k0 Tryd.underlying34 rfl (by kernel_rfl) ?_) | (refine wpList_load_row rfl 34 _ rfl _ rfl _ _ (0, 0) _ k1 Tryd.underlying34 rfl (by kernel_rfl) ?_) | fail)
  go_ret
  exact ⟨rfl, hb1⟩
def uCC : CC := ⟨aUsual, 2000, 256, 4096, 8, 512⟩
theorem uCC_check : cCheck uCC = 0 := by kernel_rfl
theorem config_up_lit (n b k : Int) (hn : 0 ≤ n) (hn2 : n ≤ 1000000) (hb : 1 ≤ b) (hb2 : b ≤ 1000000) (hk : (n + b - 1).tdiv b = k) (w : World) : Calls Tryd.prog 27 #[.int .i64 n, .int .i64 b] w fun e w' => e = .returned (.int .i64 k) ∧ Below w.heap.size w w' := by
  have e1 := IntWalk.i64_in (n + b) (by omega)
  have e2 := IntWalk.i64_in (n + b - 1) (by omega)
  have h0 : 0 ≤ (n + b - 1).tdiv b := Int.tdiv_nonneg (by omega) (by omega)
  have h1 : (n + b - 1).tdiv b ≤ n + b - 1 := by
    rw [Int.tdiv_eq_ediv_of_nonneg (by omega)]; exact Int.ediv_le_self _ (by omega)
  have e3 := IntWalk.i64_in ((n + b - 1).tdiv b) (by omega)
  have hne : (b == 0) = false := by simp; omega
  have hne' : ¬ b = 0 := by omega
  subst hk
  go_enter Tryd.func27, Tryd.ntmps27
  go_wp2
  go_ret
  exact ⟨rfl, Below.refl _ _⟩
theorem uCC_Check (w : World) : Calls Tryd.prog 12 #[uCC.V] w fun e w' => e = .returned (.int .i64 0) ∧ Below w.heap.size w w' := by
  have h := config_Check_any uCC w
  rw [uCC_check] at h
  exact h
set_option maxRecDepth 100000 in
set_option maxHeartbeats 4000000 in
theorem config_Rounds_u0 (w : World) : Calls Tryd.prog 14 #[uCC.V, .int .i64 0, .int .i64 5] w fun e w' => e = .returned (.int .i64 0) ∧ Below w.heap.size w w' := by
  go_enter Tryd.func14, Tryd.ntmps14
  go_upto_region 1 with fail
  generalize hV : World.alloc w _ = w1
  have hb1 : Below w.heap.size w w1 := by subst hV; (repeat (first | with_reducible exact Below.refl _ _ | with_reducible assumption | with_reducible refine Below.drew ?_ | with_reducible refine Below.drewN ?_ _ | with_reducible refine Below.alloc1 ?_ _ | with_reducible refine Below.setCell1 ?_ (by first | omega | (simp; done) | (simp; omega)) _ | with_reducible refine Below.step ?_ (by with_reducible assumption)))
  clear hV
  have m1 : (min 0 16 : Int) = 0 := by decide
  have m2 : (min 5 34 : Int) = 5 := by decide
  go_wp2_with fail
  go_ret
  exact ⟨rfl, hb1⟩
set_option maxRecDepth 100000 in
set_option maxHeartbeats 4000000 in
theorem config_Rounds_u1 (w : World) : Calls Tryd.prog 14 #[uCC.V, .int .i64 1, .int .i64 1] w fun e w' => e = .returned (.int .i64 3) ∧ Below w.heap.size w w' := by
  have hu1 := fun W => config_up_lit 58 4039 1 (by decide) (by decide) (by decide) (by decide) (by decide) W
  have hu2 := fun W => config_up_lit 58 455 1 (by decide) (by decide) (by decide) (by decide) (by decide) W
  go_enter Tryd.func14, Tryd.ntmps14
  go_upto_region 1 with fail
  generalize hV : World.alloc w _ = w1
  have hb1 : Below w.heap.size w w1 := by subst hV; (repeat (first | with_reducible exact Below.refl _ _ | with_reducible assumption | with_reducible refine Below.drew ?_ | with_reducible refine Below.drewN ?_ _ | with_reducible refine Below.alloc1 ?_ _ | with_reducible refine Below.setCell1 ?_ (by first | omega | (simp; done) | (simp; omega)) _ | with_reducible refine Below.step ?_ (by with_reducible assumption)))
  have k0 : Bk w1 w.heap.size 34 uCC.C := by subst hV; exact Bk.new w _ _
  clear hV
  have m1 : (min 1 16 : Int) = 1 := by decide
  have m2 : (min 1 34 : Int) = 1 := by decide
  go_wp2_with (first | (refine wpList_loadG 34 _ rfl _ rfl _ _ (0, 0) _ k0 Tryd.underlying34 rfl (by kernel_rfl) (by kernel_rfl) ?_) | fail)
  refine (uCC_Check _).mono ?_; rintro e w2 ⟨rfl, hx⟩
  replace k0 := k0.step hx
  replace hb1 : Below w.heap.size w w2 := hb1.step hx
  clear hx
  have q3 : w2.cell? ⟨w.heap.size, 21, none⟩ = some (.int .i64 4096) := k0.cell 21
  have q5 : w2.cell? ⟨w.heap.size, 23, none⟩ = some (.int .i64 512) := k0.cell 23
  have lt0 := k0.lt
  go_wp2_with fail
  (refine wp_region_qb (by kernel_rfl) (by kernel_rfl) (fun kq => ?_); (try dsimp only [List.append]); (repeat (go_big_quiet_step ((first | (go_at_call 27; with_reducible exact (hu1 _).qb) | (go_at_call 27; with_reducible exact (hu2 _).qb))))); refine wpQuiet_nil ?_; intro wq hwq; have hbq := below_of_class hwq; clear hwq kq)
  go_wp2
  go_ret
  exact ⟨rfl, hb1.step hbq⟩
set_option maxRecDepth 100000 in
set_option maxHeartbeats 4000000 in
theorem config_Rounds_u2 (w : World) : Calls Tryd.prog 14 #[uCC.V, .int .i64 16, .int .i64 34] w fun e w' => e = .returned (.int .i64 14) ∧ Below w.heap.size w w' := by
  have hu1 := fun W => config_up_lit 31552 4039 8 (by decide) (by decide) (by decide) (by decide) (by decide) W
  have hu2 := fun W => config_up_lit 1972 455 5 (by decide) (by decide) (by decide) (by decide) (by decide) W
  go_enter Tryd.func14, Tryd.ntmps14
  go_upto_region 1 with fail
  generalize hV : World.alloc w _ = w1
  have hb1 : Below w.heap.size w w1 := by subst hV; (repeat (first | with_reducible exact Below.refl _ _ | with_reducible assumption | with_reducible refine Below.drew ?_ | with_reducible refine Below.drewN ?_ _ | with_reducible refine Below.alloc1 ?_ _ | with_reducible refine Below.setCell1 ?_ (by first | omega | (simp; done) | (simp; omega)) _ | with_reducible refine Below.step ?_ (by with_reducible assumption)))
  have k0 : Bk w1 w.heap.size 34 uCC.C := by subst hV; exact Bk.new w _ _
  clear hV
  have m1 : (min 16 16 : Int) = 16 := by decide
  have m2 : (min 34 34 : Int) = 34 := by decide
  go_wp2_with (first | (refine wpList_loadG 34 _ rfl _ rfl _ _ (0, 0) _ k0 Tryd.underlying34 rfl (by kernel_rfl) (by kernel_rfl) ?_) | fail)
  refine (uCC_Check _).mono ?_; rintro e w2 ⟨rfl, hx⟩
  replace k0 := k0.step hx
  replace hb1 : Below w.heap.size w w2 := hb1.step hx
  clear hx
  have q3 : w2.cell? ⟨w.heap.size, 21, none⟩ = some (.int .i64 4096) := k0.cell 21
  have q5 : w2.cell? ⟨w.heap.size, 23, none⟩ = some (.int .i64 512) := k0.cell 23
  have lt0 := k0.lt
  go_wp2_with fail
  (refine wp_region_qb (by kernel_rfl) (by kernel_rfl) (fun kq => ?_); (try dsimp only [List.append]); (repeat (go_big_quiet_step ((first | (go_at_call 27; with_reducible exact (hu1 _).qb) | (go_at_call 27; with_reducible exact (hu2 _).qb))))); refine wpQuiet_nil ?_; intro wq hwq; have hbq := below_of_class hwq; clear hwq kq)
  go_wp2
  go_ret
  exact ⟨rfl, hb1.step hbq⟩
set_option maxRecDepth 100000 in
set_option maxHeartbeats 4000000 in
theorem config_Bound_u (w : World) : Calls Tryd.prog 15 #[uCC.V] w fun e w' => e = .returned (.int .i64 15) ∧ Below w.heap.size w w' := by
  go_enter Tryd.func15, Tryd.ntmps15
  go_upto_region 1 with fail
  generalize hV : World.alloc w _ = w1
  have hb1 : Below w.heap.size w w1 := by subst hV; (repeat (first | with_reducible exact Below.refl _ _ | with_reducible assumption | with_reducible refine Below.drew ?_ | with_reducible refine Below.drewN ?_ _ | with_reducible refine Below.alloc1 ?_ _ | with_reducible refine Below.setCell1 ?_ (by first | omega | (simp; done) | (simp; omega)) _ | with_reducible refine Below.step ?_ (by with_reducible assumption)))
  have k0 : Bk w1 w.heap.size 34 uCC.C := by subst hV; exact Bk.new w _ _
  clear hV
  go_wp2_with (first | (refine wpList_load_row rfl 34 _ rfl _ rfl _ _ (0, 0) _ k0 Tryd.underlying34 rfl (by kernel_rfl) ?_) | fail)
  refine (uCC_Check _).mono ?_; rintro e w2 ⟨rfl, hx⟩
  replace k0 := k0.step hx
  replace hb1 : Below w.heap.size w w2 := hb1.step hx
  clear hx
  go_wp2_with (first | (refine wpList_load_row rfl 34 _ rfl _ rfl _ _ (0, 0) _ k0 Tryd.underlying34 rfl (by kernel_rfl) ?_) | fail)
  refine (config_Rounds_u2 _).mono ?_; rintro e w3 ⟨rfl, hx⟩
  replace hb1 : Below w.heap.size w w3 := hb1.step hx
  go_wp2
  go_ret
  exact ⟨rfl, hb1⟩
end Go.Proofs.YtfbllioegeadfaaDoor
