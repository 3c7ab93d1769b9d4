/- callboylaw16.awake answers true. -/
import Derived.Test.YtbajakifkidccaaLev4
import Derived.Test.YtbajakifkidccaaSame
import Derived.Test.YtbajakifkidccaaRel3
namespace Go.Proofs.Ytbajakifkidccaa
open Go.RowKit Go.Sort
set_option linter.unusedSimpArgs false
set_option linter.unusedVariables false

abbrev usV : Value := .agg #[.int .i64 50, .int .i64 75, .int .i64 90, .int .i64 40, .int .i64 60, .int .i64 80, .int .i64 5]
abbrev usC : List Value := [.int .i64 50, .int .i64 75, .int .i64 90, .int .i64 40, .int .i64 60, .int .i64 80, .int .i64 5]
theorem aUsual (w : World) : Calls Try.prog 15 #[] w fun e w' => e = .returned usV ∧ Below w.heap.size w w' := level_Usual_any w
theorem aRun (A : Option Addr) (c : Nat) (w : World) (hA : Rd w w.heap.size A (ints [80, 0, 0, 0, 0, 0, 0])) :
    Calls Try.prog 19 #[usV, .slice A 7 c] w fun e w' => ∃ B d, e = .returned (.slice B 7 d) ∧ Rd w' w'.heap.size B (ints [2, 2, 2, 2, 2, 2, 1]) ∧ Below w.heap.size w w' :=
  (level_Run_yes (up := u3 50 75 90) (dn := u3 40 60 80) (hold := 5) (by decide +kernel) A c [80, 0, 0, 0, 0, 0, 0] (by decide) w hA).mono fun e w' ⟨B, d, he, hr, hb⟩ => by
    have e1 : (vRun (u3 50 75 90) (u3 40 60 80) 5 [80, 0, 0, 0, 0, 0, 0]).2 = [2, 2, 2, 2, 2, 2, 1] := by decide +kernel
    rw [e1] at hr
    exact ⟨B, d, he, hr, hb⟩
theorem aStep1 (w : World) : Calls Try.prog 7 #[usV, lsV 0 0 (-1), .int .i64 95, .int .i64 7] w fun e w' => e = .returned (lsV 3 7 (-1)) ∧ Below w.heap.size w w' := (level_Step_any (u3 50 75 90) (u3 40 60 80) 5 0 0 (-1) 95 7 w).lit (by kernel_rfl)
theorem aStep2 (w : World) : Calls Try.prog 7 #[usV, lsV 3 7 (-1), .int .i64 10, .int .i64 8] w fun e w' => e = .returned (lsV 3 7 8) ∧ Below w.heap.size w w' := (level_Step_any (u3 50 75 90) (u3 40 60 80) 5 3 7 (-1) 10 8 w).lit (by kernel_rfl)
theorem aCheck1 (w : World) : Calls Try.prog 9 #[usV] w fun e w' => e = .returned (.int .i64 0) ∧ Below w.heap.size w w' := (level_Check_any (u3 50 75 90) (u3 40 60 80) 5 w).lit (by kernel_rfl)
theorem aCheck2 (w : World) : Calls Try.prog 9 #[.agg #[.int .i64 1, .int .i64 0, .int .i64 0, .int .i64 0, .int .i64 0, .int .i64 0, .int .i64 0]] w fun e w' => e = .returned (.int .i64 10) ∧ Below w.heap.size w w' := (level_Check_any (u3 1 0 0) (u3 0 0 0) 0 w).lit (by kernel_rfl)
theorem aCheck3 (w : World) : Calls Try.prog 9 #[.agg #[.int .i64 0, .int .i64 0, .int .i64 0, .int .i64 0, .int .i64 0, .int .i64 0, .int .i64 (-1)]] w fun e w' => e = .returned (.int .i64 8) ∧ Below w.heap.size w w' := (level_Check_any (u3 0 0 0) (u3 0 0 0) (-1) w).lit (by kernel_rfl)
theorem aFine1 (w : World) : Calls Try.prog 11 #[lsV 3 7 (-1)] w fun e w' => e = .returned (.bool true) ∧ Below w.heap.size w w' := (level_Fine_any 3 7 (-1) w).lit (by kernel_rfl)
theorem aFine2 (w : World) : Calls Try.prog 11 #[lsV 4 0 0] w fun e w' => e = .returned (.bool false) ∧ Below w.heap.size w w' := (level_Fine_any 4 0 0 w).lit (by kernel_rfl)
theorem aAllows {a b : Int} {v : Bool} (h : vAllows a b = v) (w : World) : Calls Try.prog 21 #[.int .i64 a, .int .i64 b] w fun e w' => e = .returned (.bool v) ∧ w = w' := by subst h; exact level_Allows_any a b w
theorem aName {a : Int} {v : ByteArray} (h : vName a = v) (w : World) : Calls Try.prog 23 #[.int .i64 a] w fun e w' => e = .returned (.string v) ∧ w = w' := by subst h; exact level_Name_any a w
theorem aSame (A B : Option Addr) (c d : Nat) (w : World) (ha : Rd w w.heap.size A (ints [2, 2, 2, 2, 2, 2, 1])) (hb : Rd w w.heap.size B (ints [2, 2, 2, 2, 2, 2, 1])) :
    Calls Try.prog 18 #[.slice A 7 c, .slice B 7 d] w fun e w' => e = .returned (.bool true) ∧ ∃ n, w.drewN n = w' := (SameInts_any A B c d [2, 2, 2, 2, 2, 2, 1] [2, 2, 2, 2, 2, 2, 1] w (by decide) ha hb).lit (by kernel_rfl)

set_option maxRecDepth 100000 in
set_option maxHeartbeats 8000000 in
theorem awake16 (w : World) : Calls Try.prog 17 #[] w fun e w' => e = .returned (.bool true) ∧ Below w.heap.size w w' := by
  go_enter Try.func17, Try.ntmps17
  go_wp2_with fail
  refine (aUsual _).mono ?_; rintro e x0 ⟨rfl, hx0⟩
  go_wp2_with fail
  generalize hV : World.alloc (World.alloc x0 _) _ = w1
  have hb0 : Below w.heap.size w w1 := by subst hV; (repeat (first | with_reducible exact Below.refl _ _ | with_reducible assumption | with_reducible refine Below.drew ?_ | with_reducible refine Below.drewN ?_ _ | with_reducible refine Below.alloc1 ?_ _ | with_reducible refine Below.setCell1 ?_ (by first | omega | (simp; done) | (simp; omega)) _ | with_reducible refine Below.step ?_ (by with_reducible assumption)))
  have k0 : Bk w1 x0.heap.size 28 usC := by subst hV; (repeat (first | with_reducible exact Bk.new' _ _ _ _ (by simp; done) | with_reducible assumption | with_reducible refine Bk.alloc ?_ _ | with_reducible refine Bk.drew ?_ | with_reducible refine Bk.drewN ?_ _ | with_reducible refine Bk.step ?_ (by with_reducible assumption) | with_reducible refine Bk.far ?_ (by first | omega | (simp; done) | (simp; omega)) _))
  have kl0 : Bk w1 (x0.heap.size + 1) 3 [.int .i64 80, .int .i64 0, .int .i64 0, .int .i64 0, .int .i64 0, .int .i64 0, .int .i64 0] := by subst hV; (repeat (first | with_reducible exact Bk.new' _ _ _ _ (by simp; done) | with_reducible assumption | with_reducible refine Bk.alloc ?_ _ | with_reducible refine Bk.drew ?_ | with_reducible refine Bk.drewN ?_ _ | with_reducible refine Bk.step ?_ (by with_reducible assumption) | with_reducible refine Bk.far ?_ (by first | omega | (simp; done) | (simp; omega)) _))
  have kl : Bk w1 (x0.heap.size + 1) 3 (ints [80, 0, 0, 0, 0, 0, 0]) := kl0
  clear kl0
  clear hV hx0
  refine (aRun _ _ _ kl.rd).mono ?_; rintro e x1 ⟨B, d, rfl, hrd, hx1⟩
  have k1 := k0.step hx1
  have hb1 : Below w.heap.size w x1 := by (repeat (first | with_reducible exact Below.refl _ _ | with_reducible assumption | with_reducible refine Below.drew ?_ | with_reducible refine Below.drewN ?_ _ | with_reducible refine Below.alloc1 ?_ _ | with_reducible refine Below.setCell1 ?_ (by first | omega | (simp; done) | (simp; omega)) _ | with_reducible refine Below.step ?_ (by with_reducible assumption)))
  clear hx1 hb0 k0 kl
  have k1_0 := k1.cell 0; have k1_f0 := k1.frozen 0; have k1_1 := k1.cell 1; have k1_f1 := k1.frozen 1; have k1_2 := k1.cell 2; have k1_f2 := k1.frozen 2; have k1_3 := k1.cell 3; have k1_f3 := k1.frozen 3; have k1_4 := k1.cell 4; have k1_f4 := k1.frozen 4; have k1_5 := k1.cell 5; have k1_f5 := k1.frozen 5; have k1_6 := k1.cell 6; have k1_f6 := k1.frozen 6; simp only [List.set_cons_zero, List.set_cons_succ, List.getElem?_cons_zero, List.getElem?_cons_succ] at k1_0 k1_1 k1_2 k1_3 k1_4 k1_5 k1_6
  have lk1 := k1.lt
  go_wp2_with fail
  refine wp_region_mt 4 [(1, only (lsV 0 0 (-1))), (2, only (lsV 3 7 (-1))), (3, NewBk x1.heap.size 29 (lsC 0 0 0))] (by kernel_rfl) (by kernel_rfl) (by kernel_rfl) (by kernel_rfl) (sts_cons (sts_only _) (sts_cons (sts_only _) (sts_cons (sts_newBk _ _ _) sts_nil))) (fun kq => ?_); (try dsimp only [List.append, List.take])
  (repeat (refine wpM_via (by kernel_rfl) ?_; go_big_quiet_step (fail); refine wpQuiet_nil ?_))
  (refine wpM_only _ (lsV 0 0 (-1)) (by kernel_rfl) (by kernel_rfl) rfl (later_some _) ?_ ?_; (focus (intro x hx hk; obtain ⟨px, rfl⟩ := hx; go_simp; (first | with_reducible refine mUpon_enter ?_ | with_reducible refine mUpon_value ?_); go_at_call 13; exact (level_New_any _).mo)); intro K hK; go_big_quiet_op; refine hK _ ?_; clear hK K)
  (refine wpM_only _ (lsV 3 7 (-1)) (by kernel_rfl) (by kernel_rfl) rfl (later_some _) ?_ ?_; (focus (intro x hx hk; obtain ⟨px, rfl⟩ := hx; go_simp; (first | with_reducible refine mUpon_enter ?_ | with_reducible refine mUpon_value ?_); go_at_call 7; exact (aStep1 _).mo)); intro K hK; go_big_quiet_op; refine hK _ ?_; clear hK K)
  (refine wpM_spec _ (NewBk x1.heap.size 29 (lsC 0 0 0)) (by kernel_rfl) (by kernel_rfl) rfl (later_some _) ?_ ?_; (focus (intro x hx hk; obtain ⟨px, rfl⟩ := hx; go_simp; (first | with_reducible refine mUpon_enter ?_ | with_reducible refine mUpon_value ?_); exact newBk_new (by simp [Go.Sort.grow]) rfl (by simp [Go.Sort.grow, redrawn]))); intro v hv K hK; obtain ⟨g, rfl, hg⟩ := hv; go_big_quiet_op; refine hK _ ?_; clear hK K)
  refine wpM_nil ?_; intro wq hwq hfq; have hbq := below_of_class hwq; clear hwq kq; (try dsimp only [List.drop])
  have kg : Bk wq g 29 (lsC 0 0 0) := newBk_of (base := x1.heap.size) hfq.1
  have k2 := k1.step hbq
  have hz1 := hb1.size
  have hb2 : Below w.heap.size w wq := by (repeat (first | with_reducible exact Below.refl _ _ | with_reducible assumption | with_reducible refine Below.drew ?_ | with_reducible refine Below.drewN ?_ _ | with_reducible refine Below.alloc1 ?_ _ | with_reducible refine Below.setCell1 ?_ (by first | omega | (simp; done) | (simp; omega)) _ | with_reducible refine Below.step ?_ (by with_reducible assumption)))
  clear k1_0 k1_1 k1_2 k1_3 k1_4 k1_5 k1_6 k1_f0 k1_f1 k1_f2 k1_f3 k1_f4 k1_f5 k1_f6 hfq hb1 k1
  have lg := And.intro k2.lt kg.lt
  have kg_0 := kg.cell 0; have kg_f0 := kg.frozen 0; have kg_1 := kg.cell 1; have kg_f1 := kg.frozen 1; have kg_2 := kg.cell 2; have kg_f2 := kg.frozen 2; simp only [List.set_cons_zero, List.set_cons_succ, List.getElem?_cons_zero, List.getElem?_cons_succ] at kg_0 kg_1 kg_2
  have k2_0 := k2.cell 0; have k2_f0 := k2.frozen 0; have k2_1 := k2.cell 1; have k2_f1 := k2.frozen 1; have k2_2 := k2.cell 2; have k2_f2 := k2.frozen 2; have k2_3 := k2.cell 3; have k2_f3 := k2.frozen 3; have k2_4 := k2.cell 4; have k2_f4 := k2.frozen 4; have k2_5 := k2.cell 5; have k2_f5 := k2.frozen 5; have k2_6 := k2.cell 6; have k2_f6 := k2.frozen 6; simp only [List.set_cons_zero, List.set_cons_succ, List.getElem?_cons_zero, List.getElem?_cons_succ] at k2_0 k2_1 k2_2 k2_3 k2_4 k2_5 k2_6
  go_wp2_with fail
  clear k2_0 k2_1 k2_2 k2_3 k2_4 k2_5 k2_6 k2_f0 k2_f1 k2_f2 k2_f3 k2_f4 k2_f5 k2_f6
  generalize hV : World.setCell (World.setCell (World.setCell wq _ _) _ _) _ _ = w3
  have k3 : Bk w3 g 29 (lsC 3 7 (-1)) := by subst hV; exact ((kg.set_ 0 _).set_ 1 _).set_ 2 _
  replace k2 : Bk w3 x0.heap.size 28 usC := by subst hV; exact ((k2.far (by dsimp only; omega) _).far (by dsimp only; omega) _).far (by dsimp only; omega) _
  replace hb2 : Below w.heap.size w w3 := by subst hV; exact ((hb2.setCell (by dsimp only; omega) _).setCell (by dsimp only; omega) _).setCell (by dsimp only; omega) _
  have hbx : Below x1.heap.size x1 w3 := by subst hV; exact ((hbq.setCell (by dsimp only; omega) _).setCell (by dsimp only; omega) _).setCell (by dsimp only; omega) _
  have rd3 : Rd w3 w3.heap.size B (ints [2, 2, 2, 2, 2, 2, 1]) := (hrd.below hbx).more hbx.size
  clear hV kg kg_0 kg_1 kg_2 kg_f0 kg_f1 kg_f2 hrd hbx hbq
  refine (aStep2 _).mono ?_; rintro e x4 ⟨rfl, hx4⟩
  replace k2 := k2.step hx4
  replace k3 := k3.step hx4
  replace rd3 := rd3.step hx4
  replace hb2 : Below w.heap.size w x4 := by (repeat (first | with_reducible exact Below.refl _ _ | with_reducible assumption | with_reducible refine Below.drew ?_ | with_reducible refine Below.drewN ?_ _ | with_reducible refine Below.alloc1 ?_ _ | with_reducible refine Below.setCell1 ?_ (by first | omega | (simp; done) | (simp; omega)) _ | with_reducible refine Below.step ?_ (by with_reducible assumption)))
  clear hx4 lk1 hg hz1
  go_wp2_with fail
  generalize hV : World.alloc (World.alloc x4 _) _ = w6
  have k4 : Bk w6 x4.heap.size 29 (lsC 3 7 8) := by subst hV; (repeat (first | with_reducible exact Bk.new' _ _ _ _ (by simp; done) | with_reducible assumption | with_reducible refine Bk.alloc ?_ _ | with_reducible refine Bk.drew ?_ | with_reducible refine Bk.drewN ?_ _ | with_reducible refine Bk.step ?_ (by with_reducible assumption) | with_reducible refine Bk.far ?_ (by first | omega | (simp; done) | (simp; omega)) _))
  have kl0 : Bk w6 (x4.heap.size + 1) 3 [.int .i64 2, .int .i64 2, .int .i64 2, .int .i64 2, .int .i64 2, .int .i64 2, .int .i64 1] := by subst hV; (repeat (first | with_reducible exact Bk.new' _ _ _ _ (by simp; done) | with_reducible assumption | with_reducible refine Bk.alloc ?_ _ | with_reducible refine Bk.drew ?_ | with_reducible refine Bk.drewN ?_ _ | with_reducible refine Bk.step ?_ (by with_reducible assumption) | with_reducible refine Bk.far ?_ (by first | omega | (simp; done) | (simp; omega)) _))
  replace k2 : Bk w6 x0.heap.size 28 usC := by subst hV; (repeat (first | with_reducible exact Bk.new' _ _ _ _ (by simp; done) | with_reducible assumption | with_reducible refine Bk.alloc ?_ _ | with_reducible refine Bk.drew ?_ | with_reducible refine Bk.drewN ?_ _ | with_reducible refine Bk.step ?_ (by with_reducible assumption) | with_reducible refine Bk.far ?_ (by first | omega | (simp; done) | (simp; omega)) _))
  replace k3 : Bk w6 g 29 (lsC 3 7 (-1)) := by subst hV; (repeat (first | with_reducible exact Bk.new' _ _ _ _ (by simp; done) | with_reducible assumption | with_reducible refine Bk.alloc ?_ _ | with_reducible refine Bk.drew ?_ | with_reducible refine Bk.drewN ?_ _ | with_reducible refine Bk.step ?_ (by with_reducible assumption) | with_reducible refine Bk.far ?_ (by first | omega | (simp; done) | (simp; omega)) _))
  replace rd3 : Rd w6 w6.heap.size B (ints [2, 2, 2, 2, 2, 2, 1]) := by subst hV; exact (rd3.alloc1 _).alloc1 _
  replace hb2 : Below w.heap.size w w6 := by subst hV; (repeat (first | with_reducible exact Below.refl _ _ | with_reducible assumption | with_reducible refine Below.drew ?_ | with_reducible refine Below.drewN ?_ _ | with_reducible refine Below.alloc1 ?_ _ | with_reducible refine Below.setCell1 ?_ (by first | omega | (simp; done) | (simp; omega)) _ | with_reducible refine Below.step ?_ (by with_reducible assumption)))
  clear hV
  have rdl : Rd w6 w6.heap.size (some ⟨x4.heap.size + 1, 0, none⟩) (ints [2, 2, 2, 2, 2, 2, 1]) := kl0.rd
  have hsm := aSame B (some ⟨x4.heap.size + 1, 0, none⟩) d 7 w6 rd3 rdl
  with_reducible refine hsm.mono ?_; rintro e x6 ⟨rfl, n, rfl⟩
  replace hb2 := hb2.drewN n
  replace k2 := k2.drewN n
  replace k3 := k3.drewN n
  replace k4 := k4.drewN n
  clear rd3 rdl hsm kl0
  generalize w6.drewN n = w7 at *
  have k2_0 := k2.cell 0; have k2_f0 := k2.frozen 0; have k2_1 := k2.cell 1; have k2_f1 := k2.frozen 1; have k2_2 := k2.cell 2; have k2_f2 := k2.frozen 2; have k2_3 := k2.cell 3; have k2_f3 := k2.frozen 3; have k2_4 := k2.cell 4; have k2_f4 := k2.frozen 4; have k2_5 := k2.cell 5; have k2_f5 := k2.frozen 5; have k2_6 := k2.cell 6; have k2_f6 := k2.frozen 6; simp only [List.set_cons_zero, List.set_cons_succ, List.getElem?_cons_zero, List.getElem?_cons_succ] at k2_0 k2_1 k2_2 k2_3 k2_4 k2_5 k2_6; have lt_k2 := k2.lt; have k3_0 := k3.cell 0; have k3_f0 := k3.frozen 0; have k3_1 := k3.cell 1; have k3_f1 := k3.frozen 1; have k3_2 := k3.cell 2; have k3_f2 := k3.frozen 2; simp only [List.set_cons_zero, List.set_cons_succ, List.getElem?_cons_zero, List.getElem?_cons_succ] at k3_0 k3_1 k3_2; have lt_k3 := k3.lt; have k4_0 := k4.cell 0; have k4_f0 := k4.frozen 0; have k4_1 := k4.cell 1; have k4_f1 := k4.frozen 1; have k4_2 := k4.cell 2; have k4_f2 := k4.frozen 2; simp only [List.set_cons_zero, List.set_cons_succ, List.getElem?_cons_zero, List.getElem?_cons_succ] at k4_0 k4_1 k4_2; have lt_k4 := k4.lt
  go_wp2_with fail
  with_reducible refine (aCheck1 _).mono ?_; rintro e y0 ⟨rfl, hy0⟩; replace k2 := k2.step hy0; (try clear k2_0 k2_f0 k2_1 k2_f1 k2_2 k2_f2 k2_3 k2_f3 k2_4 k2_f4 k2_5 k2_f5 k2_6 k2_f6); have k2_0 := k2.cell 0; have k2_f0 := k2.frozen 0; have k2_1 := k2.cell 1; have k2_f1 := k2.frozen 1; have k2_2 := k2.cell 2; have k2_f2 := k2.frozen 2; have k2_3 := k2.cell 3; have k2_f3 := k2.frozen 3; have k2_4 := k2.cell 4; have k2_f4 := k2.frozen 4; have k2_5 := k2.cell 5; have k2_f5 := k2.frozen 5; have k2_6 := k2.cell 6; have k2_f6 := k2.frozen 6; simp only [List.set_cons_zero, List.set_cons_succ, List.getElem?_cons_zero, List.getElem?_cons_succ] at k2_0 k2_1 k2_2 k2_3 k2_4 k2_5 k2_6; (try clear lt_k2); have lt_k2 := k2.lt; replace k3 := k3.step hy0; (try clear k3_0 k3_f0 k3_1 k3_f1 k3_2 k3_f2); have k3_0 := k3.cell 0; have k3_f0 := k3.frozen 0; have k3_1 := k3.cell 1; have k3_f1 := k3.frozen 1; have k3_2 := k3.cell 2; have k3_f2 := k3.frozen 2; simp only [List.set_cons_zero, List.set_cons_succ, List.getElem?_cons_zero, List.getElem?_cons_succ] at k3_0 k3_1 k3_2; (try clear lt_k3); have lt_k3 := k3.lt; replace k4 := k4.step hy0; (try clear k4_0 k4_f0 k4_1 k4_f1 k4_2 k4_f2); have k4_0 := k4.cell 0; have k4_f0 := k4.frozen 0; have k4_1 := k4.cell 1; have k4_f1 := k4.frozen 1; have k4_2 := k4.cell 2; have k4_f2 := k4.frozen 2; simp only [List.set_cons_zero, List.set_cons_succ, List.getElem?_cons_zero, List.getElem?_cons_succ] at k4_0 k4_1 k4_2; (try clear lt_k4); have lt_k4 := k4.lt
  replace hb2 : Below w.heap.size w y0 := by (repeat (first | with_reducible exact Below.refl _ _ | with_reducible assumption | with_reducible refine Below.drew ?_ | with_reducible refine Below.drewN ?_ _ | with_reducible refine Below.alloc1 ?_ _ | with_reducible refine Below.setCell1 ?_ (by first | omega | (simp; done) | (simp; omega)) _ | with_reducible refine Below.step ?_ (by with_reducible assumption)))
  go_wp2_with fail
  with_reducible refine (aCheck2 _).mono ?_; rintro e y1 ⟨rfl, hy1⟩; replace k2 := k2.step hy1; (try clear k2_0 k2_f0 k2_1 k2_f1 k2_2 k2_f2 k2_3 k2_f3 k2_4 k2_f4 k2_5 k2_f5 k2_6 k2_f6); have k2_0 := k2.cell 0; have k2_f0 := k2.frozen 0; have k2_1 := k2.cell 1; have k2_f1 := k2.frozen 1; have k2_2 := k2.cell 2; have k2_f2 := k2.frozen 2; have k2_3 := k2.cell 3; have k2_f3 := k2.frozen 3; have k2_4 := k2.cell 4; have k2_f4 := k2.frozen 4; have k2_5 := k2.cell 5; have k2_f5 := k2.frozen 5; have k2_6 := k2.cell 6; have k2_f6 := k2.frozen 6; simp only [List.set_cons_zero, List.set_cons_succ, List.getElem?_cons_zero, List.getElem?_cons_succ] at k2_0 k2_1 k2_2 k2_3 k2_4 k2_5 k2_6; (try clear lt_k2); have lt_k2 := k2.lt; replace k3 := k3.step hy1; (try clear k3_0 k3_f0 k3_1 k3_f1 k3_2 k3_f2); have k3_0 := k3.cell 0; have k3_f0 := k3.frozen 0; have k3_1 := k3.cell 1; have k3_f1 := k3.frozen 1; have k3_2 := k3.cell 2; have k3_f2 := k3.frozen 2; simp only [List.set_cons_zero, List.set_cons_succ, List.getElem?_cons_zero, List.getElem?_cons_succ] at k3_0 k3_1 k3_2; (try clear lt_k3); have lt_k3 := k3.lt; replace k4 := k4.step hy1; (try clear k4_0 k4_f0 k4_1 k4_f1 k4_2 k4_f2); have k4_0 := k4.cell 0; have k4_f0 := k4.frozen 0; have k4_1 := k4.cell 1; have k4_f1 := k4.frozen 1; have k4_2 := k4.cell 2; have k4_f2 := k4.frozen 2; simp only [List.set_cons_zero, List.set_cons_succ, List.getElem?_cons_zero, List.getElem?_cons_succ] at k4_0 k4_1 k4_2; (try clear lt_k4); have lt_k4 := k4.lt
  replace hb2 : Below w.heap.size w y1 := by (repeat (first | with_reducible exact Below.refl _ _ | with_reducible assumption | with_reducible refine Below.drew ?_ | with_reducible refine Below.drewN ?_ _ | with_reducible refine Below.alloc1 ?_ _ | with_reducible refine Below.setCell1 ?_ (by first | omega | (simp; done) | (simp; omega)) _ | with_reducible refine Below.step ?_ (by with_reducible assumption)))
  go_wp2_with fail
  with_reducible refine (aCheck3 _).mono ?_; rintro e y2 ⟨rfl, hy2⟩; replace k2 := k2.step hy2; (try clear k2_0 k2_f0 k2_1 k2_f1 k2_2 k2_f2 k2_3 k2_f3 k2_4 k2_f4 k2_5 k2_f5 k2_6 k2_f6); have k2_0 := k2.cell 0; have k2_f0 := k2.frozen 0; have k2_1 := k2.cell 1; have k2_f1 := k2.frozen 1; have k2_2 := k2.cell 2; have k2_f2 := k2.frozen 2; have k2_3 := k2.cell 3; have k2_f3 := k2.frozen 3; have k2_4 := k2.cell 4; have k2_f4 := k2.frozen 4; have k2_5 := k2.cell 5; have k2_f5 := k2.frozen 5; have k2_6 := k2.cell 6; have k2_f6 := k2.frozen 6; simp only [List.set_cons_zero, List.set_cons_succ, List.getElem?_cons_zero, List.getElem?_cons_succ] at k2_0 k2_1 k2_2 k2_3 k2_4 k2_5 k2_6; (try clear lt_k2); have lt_k2 := k2.lt; replace k3 := k3.step hy2; (try clear k3_0 k3_f0 k3_1 k3_f1 k3_2 k3_f2); have k3_0 := k3.cell 0; have k3_f0 := k3.frozen 0; have k3_1 := k3.cell 1; have k3_f1 := k3.frozen 1; have k3_2 := k3.cell 2; have k3_f2 := k3.frozen 2; simp only [List.set_cons_zero, List.set_cons_succ, List.getElem?_cons_zero, List.getElem?_cons_succ] at k3_0 k3_1 k3_2; (try clear lt_k3); have lt_k3 := k3.lt; replace k4 := k4.step hy2; (try clear k4_0 k4_f0 k4_1 k4_f1 k4_2 k4_f2); have k4_0 := k4.cell 0; have k4_f0 := k4.frozen 0; have k4_1 := k4.cell 1; have k4_f1 := k4.frozen 1; have k4_2 := k4.cell 2; have k4_f2 := k4.frozen 2; simp only [List.set_cons_zero, List.set_cons_succ, List.getElem?_cons_zero, List.getElem?_cons_succ] at k4_0 k4_1 k4_2; (try clear lt_k4); have lt_k4 := k4.lt
  replace hb2 : Below w.heap.size w y2 := by (repeat (first | with_reducible exact Below.refl _ _ | with_reducible assumption | with_reducible refine Below.drew ?_ | with_reducible refine Below.drewN ?_ _ | with_reducible refine Below.alloc1 ?_ _ | with_reducible refine Below.setCell1 ?_ (by first | omega | (simp; done) | (simp; omega)) _ | with_reducible refine Below.step ?_ (by with_reducible assumption)))
  go_wp2_with fail
  with_reducible refine (aFine1 _).mono ?_; rintro e y3 ⟨rfl, hy3⟩; replace k2 := k2.step hy3; (try clear k2_0 k2_f0 k2_1 k2_f1 k2_2 k2_f2 k2_3 k2_f3 k2_4 k2_f4 k2_5 k2_f5 k2_6 k2_f6); have k2_0 := k2.cell 0; have k2_f0 := k2.frozen 0; have k2_1 := k2.cell 1; have k2_f1 := k2.frozen 1; have k2_2 := k2.cell 2; have k2_f2 := k2.frozen 2; have k2_3 := k2.cell 3; have k2_f3 := k2.frozen 3; have k2_4 := k2.cell 4; have k2_f4 := k2.frozen 4; have k2_5 := k2.cell 5; have k2_f5 := k2.frozen 5; have k2_6 := k2.cell 6; have k2_f6 := k2.frozen 6; simp only [List.set_cons_zero, List.set_cons_succ, List.getElem?_cons_zero, List.getElem?_cons_succ] at k2_0 k2_1 k2_2 k2_3 k2_4 k2_5 k2_6; (try clear lt_k2); have lt_k2 := k2.lt; replace k3 := k3.step hy3; (try clear k3_0 k3_f0 k3_1 k3_f1 k3_2 k3_f2); have k3_0 := k3.cell 0; have k3_f0 := k3.frozen 0; have k3_1 := k3.cell 1; have k3_f1 := k3.frozen 1; have k3_2 := k3.cell 2; have k3_f2 := k3.frozen 2; simp only [List.set_cons_zero, List.set_cons_succ, List.getElem?_cons_zero, List.getElem?_cons_succ] at k3_0 k3_1 k3_2; (try clear lt_k3); have lt_k3 := k3.lt; replace k4 := k4.step hy3; (try clear k4_0 k4_f0 k4_1 k4_f1 k4_2 k4_f2); have k4_0 := k4.cell 0; have k4_f0 := k4.frozen 0; have k4_1 := k4.cell 1; have k4_f1 := k4.frozen 1; have k4_2 := k4.cell 2; have k4_f2 := k4.frozen 2; simp only [List.set_cons_zero, List.set_cons_succ, List.getElem?_cons_zero, List.getElem?_cons_succ] at k4_0 k4_1 k4_2; (try clear lt_k4); have lt_k4 := k4.lt
  replace hb2 : Below w.heap.size w y3 := by (repeat (first | with_reducible exact Below.refl _ _ | with_reducible assumption | with_reducible refine Below.drew ?_ | with_reducible refine Below.drewN ?_ _ | with_reducible refine Below.alloc1 ?_ _ | with_reducible refine Below.setCell1 ?_ (by first | omega | (simp; done) | (simp; omega)) _ | with_reducible refine Below.step ?_ (by with_reducible assumption)))
  go_wp2_with fail
  with_reducible refine (aFine2 _).mono ?_; rintro e y4 ⟨rfl, hy4⟩; replace k2 := k2.step hy4; (try clear k2_0 k2_f0 k2_1 k2_f1 k2_2 k2_f2 k2_3 k2_f3 k2_4 k2_f4 k2_5 k2_f5 k2_6 k2_f6); have k2_0 := k2.cell 0; have k2_f0 := k2.frozen 0; have k2_1 := k2.cell 1; have k2_f1 := k2.frozen 1; have k2_2 := k2.cell 2; have k2_f2 := k2.frozen 2; have k2_3 := k2.cell 3; have k2_f3 := k2.frozen 3; have k2_4 := k2.cell 4; have k2_f4 := k2.frozen 4; have k2_5 := k2.cell 5; have k2_f5 := k2.frozen 5; have k2_6 := k2.cell 6; have k2_f6 := k2.frozen 6; simp only [List.set_cons_zero, List.set_cons_succ, List.getElem?_cons_zero, List.getElem?_cons_succ] at k2_0 k2_1 k2_2 k2_3 k2_4 k2_5 k2_6; (try clear lt_k2); have lt_k2 := k2.lt; replace k3 := k3.step hy4; (try clear k3_0 k3_f0 k3_1 k3_f1 k3_2 k3_f2); have k3_0 := k3.cell 0; have k3_f0 := k3.frozen 0; have k3_1 := k3.cell 1; have k3_f1 := k3.frozen 1; have k3_2 := k3.cell 2; have k3_f2 := k3.frozen 2; simp only [List.set_cons_zero, List.set_cons_succ, List.getElem?_cons_zero, List.getElem?_cons_succ] at k3_0 k3_1 k3_2; (try clear lt_k3); have lt_k3 := k3.lt; replace k4 := k4.step hy4; (try clear k4_0 k4_f0 k4_1 k4_f1 k4_2 k4_f2); have k4_0 := k4.cell 0; have k4_f0 := k4.frozen 0; have k4_1 := k4.cell 1; have k4_f1 := k4.frozen 1; have k4_2 := k4.cell 2; have k4_f2 := k4.frozen 2; simp only [List.set_cons_zero, List.set_cons_succ, List.getElem?_cons_zero, List.getElem?_cons_succ] at k4_0 k4_1 k4_2; (try clear lt_k4); have lt_k4 := k4.lt
  replace hb2 : Below w.heap.size w y4 := by (repeat (first | with_reducible exact Below.refl _ _ | with_reducible assumption | with_reducible refine Below.drew ?_ | with_reducible refine Below.drewN ?_ _ | with_reducible refine Below.alloc1 ?_ _ | with_reducible refine Below.setCell1 ?_ (by first | omega | (simp; done) | (simp; omega)) _ | with_reducible refine Below.step ?_ (by with_reducible assumption)))
  go_wp2_with fail
  with_reducible refine (aAllows (a := 2) (b := 0) (v := true) (by decide +kernel) _).mono ?_; rintro e w' ⟨rfl, rfl⟩
  go_wp2_with fail
  with_reducible refine (aAllows (a := 3) (b := 0) (v := false) (by decide +kernel) _).mono ?_; rintro e w' ⟨rfl, rfl⟩
  go_wp2_with fail
  with_reducible refine (aAllows (a := 2) (b := 1) (v := false) (by decide +kernel) _).mono ?_; rintro e w' ⟨rfl, rfl⟩
  go_wp2_with fail
  with_reducible refine (aAllows (a := 3) (b := 3) (v := true) (by decide +kernel) _).mono ?_; rintro e w' ⟨rfl, rfl⟩
  go_wp2_with fail
  with_reducible refine (aAllows (a := 0) (b := 4) (v := false) (by decide +kernel) _).mono ?_; rintro e w' ⟨rfl, rfl⟩
  go_wp2_with fail
  with_reducible refine (aName (a := 2) (v := ⟨#[116, 105, 103, 104, 116]⟩) (by decide +kernel) _).mono ?_; rintro e w' ⟨rfl, rfl⟩
  go_wp2_with fail
  with_reducible refine (aName (a := 9) (v := ⟨#[]⟩) (by decide +kernel) _).mono ?_; rintro e w' ⟨rfl, rfl⟩
  go_wp2_with fail
  go_ret
  exact ⟨rfl, hb2⟩
end Go.Proofs.Ytbajakifkidccaa
