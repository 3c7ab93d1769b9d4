/- The walk of BucketRuns. -/
import Derived.Test.YthbflgaekoaigaaAwake13
import Derived.Test.YthbflgaekoaigaaLaw13a
namespace Go.Proofs.Ythbflgaekoaigaa
open Go.RowKit
set_option linter.unusedSimpArgs false
set_option linter.unusedVariables false

theorem SameBools_self (n : Nat) (hn : n ≤ maxLen) (A B : Option Addr) (c d : Nat) (l : List Bool) (hl : l.length = n) (w : World) (ha : Rd w w.heap.size A (l.map Value.bool)) (hb : Rd w w.heap.size B (l.map Value.bool)) :
    Calls Try.prog 22 #[.slice A n c, .slice B n d] w fun e w' => e = .returned (.bool true) ∧ ∃ n, w.drewN n = w' := by
  subst hl
  exact (SameBools_any A B c d l l w hn ha hb).lit (by simp)

set_option maxRecDepth 100000 in
set_option maxHeartbeats 4000000 in
theorem BucketRuns_walk (b r t a t' a' : Int) (A : Option Addr) (c : Nat) (l : List Int) (hl : l.length ≤ maxLen) (w : World) (hA : Rd w w.heap.size A (l.map (Value.int .i64))) :
    Calls Try.prog 4 #[.agg #[.int .i64 b, .int .i64 r], .agg #[.int .i64 t, .int .i64 a, .int .i64 t', .int .i64 a'], .slice A l.length c] w fun e w' => e = .returned (.bool true) ∧ Below w.heap.size w w' := by
  unfold maxLen at hl
  by_cases h80 : l.length ≤ 80
  · go_enter Try.func4, Try.ntmps4
    go_upto_region 3 with fail
    generalize hW : World.alloc (World.alloc w _) _ = w1
    have hb1 : Below w.heap.size w w1 := by subst hW; (repeat (first | with_reducible exact Below.refl _ _ | with_reducible assumption | with_reducible refine Below.drew ?_ | with_reducible refine Below.drewN ?_ _ | with_reducible refine Below.alloc1 ?_ _ | with_reducible refine Below.setCell1 ?_ (by first | omega | (simp; done) | (simp; omega)) _ | with_reducible refine Below.step ?_ (by with_reducible assumption)))
    have hsz : w1.heap.size = w.heap.size + 2 := by subst hW; simp
    have k0 : Bk w1 w.heap.size 23 [.int .i64 b, .int .i64 r] := by subst hW; (repeat (first | with_reducible exact Bk.new' _ _ _ _ (by simp; done) | with_reducible assumption | with_reducible refine Bk.alloc ?_ _ | with_reducible refine Bk.drew ?_ | with_reducible refine Bk.drewN ?_ _ | with_reducible refine Bk.step ?_ (by with_reducible assumption) | with_reducible refine Bk.far ?_ (by first | omega | (simp; done) | (simp; omega)) _))
    have k1 : Bk w1 (w.heap.size + 1) 46 [.int .i64 t, .int .i64 a, .int .i64 t', .int .i64 a'] := by subst hW; (repeat (first | with_reducible exact Bk.new' _ _ _ _ (by simp; done) | with_reducible assumption | with_reducible refine Bk.alloc ?_ _ | with_reducible refine Bk.drew ?_ | with_reducible refine Bk.drewN ?_ _ | with_reducible refine Bk.step ?_ (by with_reducible assumption) | with_reducible refine Bk.far ?_ (by first | omega | (simp; done) | (simp; omega)) _))
    have hsz1 : w.heap.size + 2 ≤ w1.heap.size := by omega
    clear hW hsz
    have k0_0 := k0.cell 0; have k0_f0 := k0.frozen 0; have k0_1 := k0.cell 1; have k0_f1 := k0.frozen 1; simp only [List.set_cons_zero, List.set_cons_succ, List.getElem?_cons_zero, List.getElem?_cons_succ] at k0_0 k0_1
    have k1_0 := k1.cell 0; have k1_f0 := k1.frozen 0; have k1_1 := k1.cell 1; have k1_f1 := k1.frozen 1; have k1_2 := k1.cell 2; have k1_f2 := k1.frozen 2; have k1_3 := k1.cell 3; have k1_f3 := k1.frozen 3; simp only [List.set_cons_zero, List.set_cons_succ, List.getElem?_cons_zero, List.getElem?_cons_succ] at k1_0 k1_1 k1_2 k1_3
    go_cut [7, 8, 9] (fun p q o w' => ∃ g h i : Nat, p = .pointer (some ⟨g, 0, none⟩) ∧ q = .pointer (some ⟨h, 0, none⟩) ∧ o = .pointer (some ⟨i, 0, none⟩) ∧ Bk w' g 27 [.int .i64 b, .int .i64 r] ∧ Bk w' h 28 [.int .i64 t, .int .i64 a] ∧ Bk w' i 28 [.int .i64 t', .int .i64 a'] ∧ w1.heap.size ≤ g ∧ w1.heap.size ≤ h ∧ w1.heap.size ≤ i ∧ Below w1.heap.size w1 w')
    case first =>
      have HS : Hid (∀ w' : World, Below (w1.heap.size) w1 w' → (w'.cell? ⟨w.heap.size, 0, none⟩ = some (.int .i64 b) ∧ w'.cell? ⟨w.heap.size, 1, none⟩ = some (.int .i64 r) ∧ w'.cell? ⟨w.heap.size + 1, 0, none⟩ = some (.int .i64 t) ∧ w'.cell? ⟨w.heap.size + 1, 1, none⟩ = some (.int .i64 a) ∧ w'.cell? ⟨w.heap.size + 1, 2, none⟩ = some (.int .i64 t') ∧ w'.cell? ⟨w.heap.size + 1, 3, none⟩ = some (.int .i64 a')) ∧ w1.heap.size ≤ w'.heap.size ∧ Below (w1.heap.size) w1 w') := fun w' hB => ⟨⟨(hB.cell (p := ⟨w.heap.size, 0, none⟩) (by dsimp only; omega)).trans (k0_0), (hB.cell (p := ⟨w.heap.size, 1, none⟩) (by dsimp only; omega)).trans (k0_1), (hB.cell (p := ⟨w.heap.size + 1, 0, none⟩) (by dsimp only; omega)).trans (k1_0), (hB.cell (p := ⟨w.heap.size + 1, 1, none⟩) (by dsimp only; omega)).trans (k1_1), (hB.cell (p := ⟨w.heap.size + 1, 2, none⟩) (by dsimp only; omega)).trans (k1_2), (hB.cell (p := ⟨w.heap.size + 1, 3, none⟩) (by dsimp only; omega)).trans (k1_3)⟩, hB.size, hB⟩; go_region_held3 (fun w' => (w'.cell? ⟨w.heap.size, 0, none⟩ = some (.int .i64 b) ∧ w'.cell? ⟨w.heap.size, 1, none⟩ = some (.int .i64 r) ∧ w'.cell? ⟨w.heap.size + 1, 0, none⟩ = some (.int .i64 t) ∧ w'.cell? ⟨w.heap.size + 1, 1, none⟩ = some (.int .i64 a) ∧ w'.cell? ⟨w.heap.size + 1, 2, none⟩ = some (.int .i64 t') ∧ w'.cell? ⟨w.heap.size + 1, 3, none⟩ = some (.int .i64 a')) ∧ w1.heap.size ≤ w'.heap.size ∧ Below (w1.heap.size) w1 w') ((go_split_ands; exact HS.out _ (by (repeat (first | with_reducible exact Below.refl _ _ | with_reducible assumption | with_reducible refine Below.drew ?_ | with_reducible refine Below.drewN ?_ _ | with_reducible refine Below.alloc ?_ (by first | omega | (simp; done) | (simp; omega)) _ | with_reducible refine Below.setCell ?_ (by first | omega | (simp; done) | (simp; omega)) _ | with_reducible refine Below.then_ ?_ (by with_reducible assumption) (by first | omega | (simp; done) | (simp; omega))))))) ((fail))
      all_goals (go_wp2_with fail; go_meet)
      all_goals
        refine ⟨_, _, _, rfl, rfl, rfl, by (repeat (first | with_reducible exact Bk.new' _ _ _ _ (by simp; done) | with_reducible assumption | with_reducible refine Bk.alloc ?_ _ | with_reducible refine Bk.drew ?_ | with_reducible refine Bk.drewN ?_ _ | with_reducible refine Bk.step ?_ (by with_reducible assumption) | with_reducible refine Bk.far ?_ (by first | omega | (simp; done) | (simp; omega)) _)), by (repeat (first | with_reducible exact Bk.new' _ _ _ _ (by simp; done) | with_reducible assumption | with_reducible refine Bk.alloc ?_ _ | with_reducible refine Bk.drew ?_ | with_reducible refine Bk.drewN ?_ _ | with_reducible refine Bk.step ?_ (by with_reducible assumption) | with_reducible refine Bk.far ?_ (by first | omega | (simp; done) | (simp; omega)) _)), by (repeat (first | with_reducible exact Bk.new' _ _ _ _ (by simp; done) | with_reducible assumption | with_reducible refine Bk.alloc ?_ _ | with_reducible refine Bk.drew ?_ | with_reducible refine Bk.drewN ?_ _ | with_reducible refine Bk.step ?_ (by with_reducible assumption) | with_reducible refine Bk.far ?_ (by first | omega | (simp; done) | (simp; omega)) _)), by first | omega | (simp; done) | (simp; omega), by first | omega | (simp; done) | (simp; omega), by first | omega | (simp; done) | (simp; omega), by (repeat (first | with_reducible exact Below.refl _ _ | with_reducible assumption | with_reducible refine Below.drew ?_ | with_reducible refine Below.drewN ?_ _ | with_reducible refine Below.alloc1 ?_ _ | with_reducible refine Below.setCell1 ?_ (by first | omega | (simp; done) | (simp; omega)) _ | with_reducible refine Below.step ?_ (by with_reducible assumption)))⟩
    case rest =>
      obtain ⟨g, h, i, rfl, rfl, rfl, kg, kh, ki, hgw, hhw, hiw, hbc⟩ := hcut
      have lg := kg.lt
      have lh := kh.lt
      have li := ki.lt
      have hzc := hbc.size
      have j0 := k0.step hbc
      have j1 := k1.step hbc
      have hb : Below w.heap.size w wc := by (repeat (first | with_reducible exact Below.refl _ _ | with_reducible assumption | with_reducible refine Below.drew ?_ | with_reducible refine Below.drewN ?_ _ | with_reducible refine Below.alloc1 ?_ _ | with_reducible refine Below.setCell1 ?_ (by first | omega | (simp; done) | (simp; omega)) _ | with_reducible refine Below.step ?_ (by with_reducible assumption)))
      have hA1 : Rd wc wc.heap.size A (l.map (Value.int .i64)) := hA.step hb
      have HLN := hide (bRun_length b r (t, a) l)
      clear k0 k1 k0_0 k0_1 k0_f0 k0_f1 k1_0 k1_1 k1_2 k1_3 k1_f0 k1_f1 k1_f2 k1_f3 hbc hb1 hA
      have j0_0 := j0.cell 0; have j0_f0 := j0.frozen 0; have j0_1 := j0.cell 1; have j0_f1 := j0.frozen 1; simp only [List.set_cons_zero, List.set_cons_succ, List.getElem?_cons_zero, List.getElem?_cons_succ] at j0_0 j0_1
      have j1_0 := j1.cell 0; have j1_f0 := j1.frozen 0; have j1_1 := j1.cell 1; have j1_f1 := j1.frozen 1; have j1_2 := j1.cell 2; have j1_f2 := j1.frozen 2; have j1_3 := j1.cell 3; have j1_f3 := j1.frozen 3; simp only [List.set_cons_zero, List.set_cons_succ, List.getElem?_cons_zero, List.getElem?_cons_succ] at j1_0 j1_1 j1_2 j1_3
      have kg_0 := kg.cell 0; have kg_f0 := kg.frozen 0; have kg_1 := kg.cell 1; have kg_f1 := kg.frozen 1; simp only [List.set_cons_zero, List.set_cons_succ, List.getElem?_cons_zero, List.getElem?_cons_succ] at kg_0 kg_1
      have kh_0 := kh.cell 0; have kh_f0 := kh.frozen 0; have kh_1 := kh.cell 1; have kh_f1 := kh.frozen 1; simp only [List.set_cons_zero, List.set_cons_succ, List.getElem?_cons_zero, List.getElem?_cons_succ] at kh_0 kh_1
      have lwc : w.heap.size < wc.heap.size ∧ w.heap.size + 1 < wc.heap.size ∧ g < wc.heap.size ∧ h < wc.heap.size ∧ i < wc.heap.size := by omega
      go_wp2_with fail
      refine (bucket_Run_any _ _ _ _ _ _ l (by omega) _ hA1).mono ?_; rintro e x0 ⟨B0, d0, rfl, hr0, hf0, hx0⟩; obtain ⟨hc_hx0, hf_hx0⟩ := bcell hx0; have hz_hx0 := hx0.size; (try simp at hz_hx0); (have lx0 : w.heap.size < x0.heap.size ∧ w.heap.size + 1 < x0.heap.size ∧ g < x0.heap.size ∧ h < x0.heap.size ∧ i < x0.heap.size := by omega)
      have hA2 : Rd x0 x0.heap.size A (l.map (Value.int .i64)) := hA1.step hx0
      go_wp2_with fail
      refine (r13_Run_any _ _ _ _ _ _ l (by omega) _ (hA2.alloc1 _)).mono ?_; rintro e x1 ⟨B1, d1, rfl, hr1, hf1, hx1⟩; obtain ⟨hc_hx1, hf_hx1⟩ := bcell hx1; have hz_hx1 := hx1.size; (try simp at hz_hx1); (have lx1 : w.heap.size < x1.heap.size ∧ w.heap.size + 1 < x1.heap.size ∧ g < x1.heap.size ∧ h < x1.heap.size ∧ i < x1.heap.size ∧ x0.heap.size < x1.heap.size := by omega)
      have hA3 : Rd x1 x1.heap.size A (l.map (Value.int .i64)) := (hA2.alloc1 _).step hx1
      have hr0' : Rd x1 x1.heap.size B0 ((bRun b r (t, a) l).2.map Value.bool) := (hr0.alloc1 _).step hx1
      go_upto_region 6 with fail
      generalize hW5 : World.alloc x1 _ = w5
      have hb5 : Below w.heap.size w w5 := by subst hW5; (repeat (first | with_reducible exact Below.refl _ _ | with_reducible assumption | with_reducible refine Below.drew ?_ | with_reducible refine Below.drewN ?_ _ | with_reducible refine Below.alloc1 ?_ _ | with_reducible refine Below.setCell1 ?_ (by first | omega | (simp; done) | (simp; omega)) _ | with_reducible refine Below.step ?_ (by with_reducible assumption)))
      have m0 : Bk w5 w.heap.size 23 [.int .i64 b, .int .i64 r] := by subst hW5; (repeat (first | with_reducible exact Bk.new' _ _ _ _ (by simp; done) | with_reducible assumption | with_reducible refine Bk.alloc ?_ _ | with_reducible refine Bk.drew ?_ | with_reducible refine Bk.drewN ?_ _ | with_reducible refine Bk.step ?_ (by with_reducible assumption) | with_reducible refine Bk.far ?_ (by first | omega | (simp; done) | (simp; omega)) _))
      have m1 : Bk w5 (w.heap.size + 1) 46 [.int .i64 t, .int .i64 a, .int .i64 t', .int .i64 a'] := by subst hW5; (repeat (first | with_reducible exact Bk.new' _ _ _ _ (by simp; done) | with_reducible assumption | with_reducible refine Bk.alloc ?_ _ | with_reducible refine Bk.drew ?_ | with_reducible refine Bk.drewN ?_ _ | with_reducible refine Bk.step ?_ (by with_reducible assumption) | with_reducible refine Bk.far ?_ (by first | omega | (simp; done) | (simp; omega)) _))
      have m3 : Bk w5 g 27 [.int .i64 b, .int .i64 r] := by subst hW5; (repeat (first | with_reducible exact Bk.new' _ _ _ _ (by simp; done) | with_reducible assumption | with_reducible refine Bk.alloc ?_ _ | with_reducible refine Bk.drew ?_ | with_reducible refine Bk.drewN ?_ _ | with_reducible refine Bk.step ?_ (by with_reducible assumption) | with_reducible refine Bk.far ?_ (by first | omega | (simp; done) | (simp; omega)) _))
      have m4 : Bk w5 h 28 [.int .i64 t, .int .i64 a] := by subst hW5; (repeat (first | with_reducible exact Bk.new' _ _ _ _ (by simp; done) | with_reducible assumption | with_reducible refine Bk.alloc ?_ _ | with_reducible refine Bk.drew ?_ | with_reducible refine Bk.drewN ?_ _ | with_reducible refine Bk.step ?_ (by with_reducible assumption) | with_reducible refine Bk.far ?_ (by first | omega | (simp; done) | (simp; omega)) _))
      have m7 : Bk w5 i 28 [.int .i64 t', .int .i64 a'] := by subst hW5; (repeat (first | with_reducible exact Bk.new' _ _ _ _ (by simp; done) | with_reducible assumption | with_reducible refine Bk.alloc ?_ _ | with_reducible refine Bk.drew ?_ | with_reducible refine Bk.drewN ?_ _ | with_reducible refine Bk.step ?_ (by with_reducible assumption) | with_reducible refine Bk.far ?_ (by first | omega | (simp; done) | (simp; omega)) _))
      have m5 : Bk w5 x0.heap.size 28 [.int .i64 (bRun b r (t, a) l).1.1, .int .i64 (bRun b r (t, a) l).1.2] := by subst hW5; (repeat (first | with_reducible exact Bk.new' _ _ _ _ (by simp; done) | with_reducible assumption | with_reducible refine Bk.alloc ?_ _ | with_reducible refine Bk.drew ?_ | with_reducible refine Bk.drewN ?_ _ | with_reducible refine Bk.step ?_ (by with_reducible assumption) | with_reducible refine Bk.far ?_ (by first | omega | (simp; done) | (simp; omega)) _))
      have m6 : Bk w5 x1.heap.size 25 [.int .i64 (bRun b r (t, a) l).1.1, .int .i64 (bRun b r (t, a) l).1.2] := by subst hW5; (repeat (first | with_reducible exact Bk.new' _ _ _ _ (by simp; done) | with_reducible assumption | with_reducible refine Bk.alloc ?_ _ | with_reducible refine Bk.drew ?_ | with_reducible refine Bk.drewN ?_ _ | with_reducible refine Bk.step ?_ (by with_reducible assumption) | with_reducible refine Bk.far ?_ (by first | omega | (simp; done) | (simp; omega)) _))
      have n0 : Rd w5 w5.heap.size B0 ((bRun b r (t, a) l).2.map Value.bool) := by subst hW5; exact hr0'.alloc1 _
      have n1 : Rd w5 w5.heap.size B1 ((bRun b r (t, a) l).2.map Value.bool) := by subst hW5; exact hr1.alloc1 _
      have n2 : Rd w5 w5.heap.size A (l.map (Value.int .i64)) := by subst hW5; exact hA3.alloc1 _
      clear hW5
      have lm := And.intro m0.lt (And.intro m1.lt (And.intro m7.lt (And.intro m3.lt (And.intro m4.lt (And.intro m5.lt m6.lt)))))
      have m0_0 := m0.cell 0; have m0_f0 := m0.frozen 0; have m0_1 := m0.cell 1; have m0_f1 := m0.frozen 1; simp only [List.set_cons_zero, List.set_cons_succ, List.getElem?_cons_zero, List.getElem?_cons_succ] at m0_0 m0_1
      have m1_0 := m1.cell 0; have m1_f0 := m1.frozen 0; have m1_1 := m1.cell 1; have m1_f1 := m1.frozen 1; have m1_2 := m1.cell 2; have m1_f2 := m1.frozen 2; have m1_3 := m1.cell 3; have m1_f3 := m1.frozen 3; simp only [List.set_cons_zero, List.set_cons_succ, List.getElem?_cons_zero, List.getElem?_cons_succ] at m1_0 m1_1 m1_2 m1_3
      have m3_0 := m3.cell 0; have m3_f0 := m3.frozen 0; have m3_1 := m3.cell 1; have m3_f1 := m3.frozen 1; simp only [List.set_cons_zero, List.set_cons_succ, List.getElem?_cons_zero, List.getElem?_cons_succ] at m3_0 m3_1
      have m4_0 := m4.cell 0; have m4_f0 := m4.frozen 0; have m4_1 := m4.cell 1; have m4_f1 := m4.frozen 1; simp only [List.set_cons_zero, List.set_cons_succ, List.getElem?_cons_zero, List.getElem?_cons_succ] at m4_0 m4_1
      have m5_0 := m5.cell 0; have m5_f0 := m5.frozen 0; have m5_1 := m5.cell 1; have m5_f1 := m5.frozen 1; simp only [List.set_cons_zero, List.set_cons_succ, List.getElem?_cons_zero, List.getElem?_cons_succ] at m5_0 m5_1
      have m6_0 := m6.cell 0; have m6_f0 := m6.frozen 0; have m6_1 := m6.cell 1; have m6_f1 := m6.frozen 1; simp only [List.set_cons_zero, List.set_cons_succ, List.getElem?_cons_zero, List.getElem?_cons_succ] at m6_0 m6_1
      have m7_0 := m7.cell 0; have m7_f0 := m7.frozen 0; have m7_1 := m7.cell 1; have m7_f1 := m7.frozen 1; simp only [List.set_cons_zero, List.set_cons_succ, List.getElem?_cons_zero, List.getElem?_cons_succ] at m7_0 m7_1
      clear hc_hx0 hf_hx0 hc_hx1 hf_hx1 hr0 hr1 hr0' hA1 hA2 hA3 hf0 hf1
      by_cases hl0 : 0 < l.length
      · obtain ⟨ad, rfl, hadb, hca⟩ := n2.at_ (k := 0) (by simpa using hl0)
        have hc0 : w5.cell? ad = some (.int .i64 l[0]) := by have := hca; simp [Addr.add] at this; exact this
        clear hca n2
        generalize l[0] = N at *
        go_wp2_with fail
        (refine wp_region_qb (by kernel_rfl) (by kernel_rfl) (fun kq => ?_); (try dsimp only [List.append]); (repeat (go_big_quiet_step ((first | (go_at_call 22; exact (SameBools_self _ (by unfold maxLen; omega) _ _ _ _ _ HLN.out _ (n0.step (below_regrown _ _ _)) (n1.step (below_regrown _ _ _))).qd) | (go_at_call 23; exact (bucket_Most_any _ _ _ _).qb) | (go_at_call 24; exact (r13_Most_any _ _ _ _).qb) | (go_at_call 25; exact (bucket_Same_any _ _ _ _ _ _ _ _).qb) | (go_at_call 26; exact (r13_Same_any _ _ _ _ _ _ _ _).qb) | (go_at_call 19; exact (awake13 _).qb))))); refine wpQuiet_nil ?_; intro wq hwq; have hbq := below_of_class hwq; clear hwq kq)
        go_wp2
        go_ret
        exact ⟨rfl, by (repeat (first | with_reducible exact Below.refl _ _ | with_reducible assumption | with_reducible refine Below.drew ?_ | with_reducible refine Below.drewN ?_ _ | with_reducible refine Below.alloc1 ?_ _ | with_reducible refine Below.setCell1 ?_ (by first | omega | (simp; done) | (simp; omega)) _ | with_reducible refine Below.step ?_ (by with_reducible assumption)))⟩
      · have hl0' : l.length ≤ 0 := by omega
        go_wp2_with fail
        (refine wp_region_qb (by kernel_rfl) (by kernel_rfl) (fun kq => ?_); (try dsimp only [List.append]); (repeat (go_big_quiet_step ((first | (go_at_call 22; exact (SameBools_self _ (by unfold maxLen; omega) _ _ _ _ _ HLN.out _ (n0.step (below_regrown _ _ _)) (n1.step (below_regrown _ _ _))).qd) | (go_at_call 23; exact (bucket_Most_any _ _ _ _).qb) | (go_at_call 24; exact (r13_Most_any _ _ _ _).qb) | (go_at_call 25; exact (bucket_Same_any _ _ _ _ _ _ _ _).qb) | (go_at_call 26; exact (r13_Same_any _ _ _ _ _ _ _ _).qb) | (go_at_call 19; exact (awake13 _).qb))))); refine wpQuiet_nil ?_; intro wq hwq; have hbq := below_of_class hwq; clear hwq kq)
        go_wp2
        go_ret
        exact ⟨rfl, by (repeat (first | with_reducible exact Below.refl _ _ | with_reducible assumption | with_reducible refine Below.drew ?_ | with_reducible refine Below.drewN ?_ _ | with_reducible refine Below.alloc1 ?_ _ | with_reducible refine Below.setCell1 ?_ (by first | omega | (simp; done) | (simp; omega)) _ | with_reducible refine Below.step ?_ (by with_reducible assumption)))⟩
  · go_enter Try.func4, Try.ntmps4
    go_wp2_with fail
    refine (awake13 _).mono ?_; rintro e x20 ⟨rfl, hbx⟩
    go_wp2
    go_ret
    exact ⟨rfl, by (repeat (first | with_reducible exact Below.refl _ _ | with_reducible assumption | with_reducible refine Below.drew ?_ | with_reducible refine Below.drewN ?_ _ | with_reducible refine Below.alloc1 ?_ _ | with_reducible refine Below.setCell1 ?_ (by first | omega | (simp; done) | (simp; omega)) _ | with_reducible refine Below.step ?_ (by with_reducible assumption)))⟩
end Go.Proofs.Ythbflgaekoaigaa
