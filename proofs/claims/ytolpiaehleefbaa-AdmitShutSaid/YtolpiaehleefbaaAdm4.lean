/- Package admit: Tick, Same. -/
import Derived.Test.YtolpiaehleefbaaAdm2
namespace Go.Proofs.Ytolpiaehleefbaa
open Go.RowKit Go.Sort
set_option linter.unusedSimpArgs false
set_option linter.unusedVariables false

set_option maxRecDepth 100000 in
set_option maxHeartbeats 16000000 in
theorem admit_Tick_any (c : AC) (x : AS) (A : Option Addr) (d : Nat) (load now : Int) (w : World) (hl : x.es.length ≤ 1000) (ha : Rd w w.heap.size A (enR x.es)) :
    Calls Try.prog 18 #[c.V, x.V A d, .int .i64 load, .int .i64 now] w fun e w' => e = .returned ((aTick c x load now).V A d) ∧ Below w.heap.size w w' := by
  have hf := fun (W : World) (h : Below w.heap.size w W) => admit_Fine_any c x A d W hl ((ha.below h).more h.size)
  have hS := fun W => level_Step_any c.up c.dn c.hold x.l x.s x.v load now W
  have HC := hide (show aTick c x load now = if aFine c x = 0 then ⟨x.t, x.a, x.es, (vStep c.up c.dn c.hold x.l x.s x.v load now).1, (vStep c.up c.dn c.hold x.l x.s x.v load now).2.1, (vStep c.up c.dn c.hold x.l x.s x.v load now).2.2, x.le, x.se⟩ else x from rfl)
  generalize aFine c x = v0 at *
  generalize vStep c.up c.dn c.hold x.l x.s x.v load now = S at *
  generalize aTick c x load now = R at *
  unfold AC.V AS.V at *
  obtain ⟨ab, ar, eb, er, up, dn, hold, lo, hi⟩ := c
  obtain ⟨t, a, es, l, s, v, le, se⟩ := x
  obtain ⟨l2, s2, v2⟩ := S
  dsimp only at *
  clear hl ha
  go_enter Try.func18, Try.ntmps18
  go_upto_region 1 with fail
  generalize hV : World.alloc (World.alloc (World.alloc w _) _) _ = w1
  have hb1 : Below w.heap.size w w1 := by subst hV; (repeat (first | with_reducible exact Below.refl _ _ | with_reducible assumption | with_reducible refine Below.drew ?_ | with_reducible refine Below.drewN ?_ _ | with_reducible refine Below.alloc1 ?_ _ | with_reducible refine Below.setCell1 ?_ (by first | omega | (simp; done) | (simp; omega)) _ | with_reducible refine Below.step ?_ (by with_reducible assumption)))
  have k0 : Bk w1 w.heap.size 44 (acC ab ar eb er up dn hold lo hi) := by subst hV; (repeat (first | with_reducible exact Bk.new' _ _ _ _ (by simp; done) | with_reducible assumption | with_reducible refine Bk.alloc ?_ _ | with_reducible refine Bk.drew ?_ | with_reducible refine Bk.drewN ?_ _ | with_reducible refine Bk.step ?_ (by with_reducible assumption) | with_reducible refine Bk.far ?_ (by first | omega | (simp; done) | (simp; omega)) _))
  have k1 : Bk w1 (w.heap.size + 1) 51 (azC t a A es.length d l s v le se) := by subst hV; (repeat (first | with_reducible exact Bk.new' _ _ _ _ (by simp; done) | with_reducible assumption | with_reducible refine Bk.alloc ?_ _ | with_reducible refine Bk.drew ?_ | with_reducible refine Bk.drewN ?_ _ | with_reducible refine Bk.step ?_ (by with_reducible assumption) | with_reducible refine Bk.far ?_ (by first | omega | (simp; done) | (simp; omega)) _))
  have k2 : Bk w1 (w.heap.size + 1 + 1) 51 (azC 0 0 none 0 0 0 0 0 0 0) := by subst hV; (repeat (first | with_reducible exact Bk.new' _ _ _ _ (by simp; done) | with_reducible assumption | with_reducible refine Bk.alloc ?_ _ | with_reducible refine Bk.drew ?_ | with_reducible refine Bk.drewN ?_ _ | with_reducible refine Bk.step ?_ (by with_reducible assumption) | with_reducible refine Bk.far ?_ (by first | omega | (simp; done) | (simp; omega)) _))
  clear hV
  go_wp2_with (first | (refine wpList_load_row rfl 44 _ rfl _ rfl _ _ (0, 0) _ k0 Try.underlying44 rfl (by kernel_rfl) ?_) | (refine wpList_load_row rfl 51 _ rfl _ rfl _ _ (0, 0) _ k1 Try.underlying51 rfl (by kernel_rfl) ?_))
  refine (hf _ hb1).mono ?_; rintro e x1 ⟨rfl, hx⟩
  replace k0 := k0.step hx; replace k1 := k1.step hx; replace k2 := k2.step hx
  replace hb1 : Below w.heap.size w x1 := hb1.step hx
  clear hx hf
  by_cases e0 : v0 = 0
  · subst e0
    have HR := hide (show R = ⟨t, a, es, l2, s2, v2, le, se⟩ from by rw [HC.out, if_pos rfl])
    clear HC
    have q4 := k0.cell 4; have q5 := k0.cell 5; have q6 := k0.cell 6; have q7 := k0.cell 7; have q8 := k0.cell 8; have q9 := k0.cell 9; have q10 := k0.cell 10
    simp only [List.getElem?_cons_zero, List.getElem?_cons_succ] at q4 q5 q6 q7 q8 q9 q10
    have k1_0 := k1.cell 0; have k1_f0 := k1.frozen 0; have k1_1 := k1.cell 1; have k1_f1 := k1.frozen 1; have k1_2 := k1.cell 2; have k1_f2 := k1.frozen 2; have k1_3 := k1.cell 3; have k1_f3 := k1.frozen 3; have k1_4 := k1.cell 4; have k1_f4 := k1.frozen 4; have k1_5 := k1.cell 5; have k1_f5 := k1.frozen 5; have k1_6 := k1.cell 6; have k1_f6 := k1.frozen 6; have k1_7 := k1.cell 7; have k1_f7 := k1.frozen 7; simp only [List.set_cons_zero, List.set_cons_succ, List.getElem?_cons_zero, List.getElem?_cons_succ] at k1_0 k1_1 k1_2 k1_3 k1_4 k1_5 k1_6 k1_7; have lt_k1 := k1.lt
    go_wp2_with fail
    refine (hS _).mono ?_; rintro e x2 ⟨rfl, hx⟩
    replace k1 := k1.step hx; (try clear k1_0 k1_f0 k1_1 k1_f1 k1_2 k1_f2 k1_3 k1_f3 k1_4 k1_f4 k1_5 k1_f5 k1_6 k1_f6 k1_7 k1_f7); have k1_0 := k1.cell 0; have k1_f0 := k1.frozen 0; have k1_1 := k1.cell 1; have k1_f1 := k1.frozen 1; have k1_2 := k1.cell 2; have k1_f2 := k1.frozen 2; have k1_3 := k1.cell 3; have k1_f3 := k1.frozen 3; have k1_4 := k1.cell 4; have k1_f4 := k1.frozen 4; have k1_5 := k1.cell 5; have k1_f5 := k1.frozen 5; have k1_6 := k1.cell 6; have k1_f6 := k1.frozen 6; have k1_7 := k1.cell 7; have k1_f7 := k1.frozen 7; simp only [List.set_cons_zero, List.set_cons_succ, List.getElem?_cons_zero, List.getElem?_cons_succ] at k1_0 k1_1 k1_2 k1_3 k1_4 k1_5 k1_6 k1_7; (try clear lt_k1); have lt_k1 := k1.lt
    replace k2 := k2.step hx
    replace hb1 : Below w.heap.size w x2 := hb1.step hx
    clear hx hS q4 q5 q6 q7 q8 q9 q10 k0
    go_upto_region 3 with fail
    (try clear k1_0 k1_f0 k1_1 k1_f1 k1_2 k1_f2 k1_3 k1_f3 k1_4 k1_f4 k1_5 k1_f5 k1_6 k1_f6 k1_7 k1_f7 lt_k1)
    generalize hV : World.setCell (World.setCell (World.setCell x2 _ _) _ _) _ _ = x3
    replace hb1 : Below w.heap.size w x3 := by subst hV; exact ((hb1.setCell (by dsimp only; omega) _).setCell (by dsimp only; omega) _).setCell (by dsimp only; omega) _
    replace k1 : Bk x3 (w.heap.size + 1) 51 (azC t a A es.length d l2 s2 v2 le se) := by subst hV; exact ((k1.set_ 3 _).set_ 4 _).set_ 5 _
    replace k2 : Bk x3 (w.heap.size + 1 + 1) 51 (azC 0 0 none 0 0 0 0 0 0 0) := by subst hV; exact ((k2.far (by dsimp only; omega) _).far (by dsimp only; omega) _).far (by dsimp only; omega) _
    clear hV
    go_wp2_with (first | (refine wpList_load_row rfl 51 _ rfl _ rfl _ _ (0, 0) _ k1 Try.underlying51 rfl (by kernel_rfl) ?_) | (refine wpList_store_row rfl 51 _ _ rfl _ (azC t a A es.length d l2 s2 v2 le se).toArray rfl rfl _ _ k2 (by kernel_rfl) (by kernel_rfl) (by kernel_rfl) ?_))
    have r2 := k2.row (azC t a A es.length d l2 s2 v2 le se)
    refine bodyPost_ret (v := .agg (azC t a A es.length d l2 s2 v2 le se).toArray) ?_ rfl ?_
    · exact results_cell_row rfl _ _ _ _ _ (0, 0) _ rfl r2 Try.underlying51 rfl (by kernel_rfl)
    · rw [HR.out]; exact ⟨rfl, setRow_below hb1 (by omega) _⟩
  · have hne : (v0 == 0) = false := by simpa using e0
    have HR := hide (show R = ⟨t, a, es, l, s, v, le, se⟩ from by rw [HC.out, if_neg e0])
    clear HC e0
    go_wp2_with (first | (refine wpList_load_row rfl 51 _ rfl _ rfl _ _ (0, 0) _ k1 Try.underlying51 rfl (by kernel_rfl) ?_) | (refine wpList_store_row rfl 51 _ _ rfl _ (azC t a A es.length d l s v le se).toArray rfl rfl _ _ k2 (by kernel_rfl) (by kernel_rfl) (by kernel_rfl) ?_))
    have r2 := k2.row (azC t a A es.length d l s v le se)
    refine bodyPost_ret (v := .agg (azC t a A es.length d l s v le se).toArray) ?_ rfl ?_
    · exact results_cell_row rfl _ _ _ _ _ (0, 0) _ rfl r2 Try.underlying51 rfl (by kernel_rfl)
    · rw [HR.out]; exact ⟨rfl, setRow_below hb1 (by omega) _⟩
theorem eq_bst (t a t' a' : Int) (w' : World) : (binOp .eql 46 (.agg #[.int .i64 t, .int .i64 a]) (.agg #[.int .i64 t', .int .i64 a'])).run Try.prog w' = .ok (.bool (decide ((t, a) = (t', a')))) w' := by
  have hS : Try.prog.underlying 46 = some (.struct (Try.prog.fieldsOf 46)) := by kernel_rfl
  have hp : Try.prog.stoodInHeld 46 = false := by kernel_rfl
  rw [run_eql_struct, show (10000 : Nat) = 9999 + 1 from rfl, run_equalIn_agg w' 9999 46 _ _ hS hp]
  simp only [Program.fieldsOf, Try.underlying46]
  go_simp
  by_cases h0 : t = t' <;> by_cases h1 : a = a' <;> simp [h0, h1]
theorem eq_lst (l s v l' s' v' : Int) (w' : World) : (binOp .eql 49 (.agg #[.int .i64 l, .int .i64 s, .int .i64 v]) (.agg #[.int .i64 l', .int .i64 s', .int .i64 v'])).run Try.prog w' = .ok (.bool (decide ((l, s, v) = (l', s', v')))) w' := by
  have hS : Try.prog.underlying 49 = some (.struct (Try.prog.fieldsOf 49)) := by kernel_rfl
  have hp : Try.prog.stoodInHeld 49 = false := by kernel_rfl
  rw [run_eql_struct, show (10000 : Nat) = 9999 + 1 from rfl, run_equalIn_agg w' 9999 49 _ _ hS hp]
  simp only [Program.fieldsOf, Try.underlying49]
  go_simp
  by_cases h0 : l = l' <;> by_cases h1 : s = s' <;> by_cases h2 : v = v' <;> simp [h0, h1, h2]
set_option maxRecDepth 100000 in
set_option maxHeartbeats 8000000 in
theorem admit_Same_any (x y : AS) (A B : Option Addr) (c d : Nat) (w : World) (hl : x.es.length ≤ 1000) (ha : Rd w w.heap.size A (enR x.es)) (hb : Rd w w.heap.size B (enR y.es)) :
    Calls Try.prog 24 #[x.V A c, y.V B d] w fun e w' => e = .returned (.bool (aSame x y)) ∧ Below w.heap.size w w' := by
  have hE := fun (W : World) (h : Below w.heap.size w W) => source_Same_any A B c d x.es y.es W hl ((ha.below h).more h.size) ((hb.below h).more h.size)
  have h1 := eq_bst x.t x.a y.t y.a
  have h2 := eq_lst x.l x.s x.v y.l y.s y.v
  have HC := hide (show aSame x y = (decide ((x.t, x.a) = (y.t, y.a)) && decide (x.es = y.es) && decide ((x.l, x.s, x.v) = (y.l, y.s, y.v)) && decide (x.le = y.le) && decide (x.se = y.se)) from rfl)
  have h4 : (x.le == y.le) = decide (x.le = y.le) := rfl
  have h5 : (x.se == y.se) = decide (x.se = y.se) := rfl
  generalize decide ((x.t, x.a) = (y.t, y.a)) = b1 at *
  generalize decide (x.es = y.es) = b2 at *
  generalize decide ((x.l, x.s, x.v) = (y.l, y.s, y.v)) = b3 at *
  generalize decide (x.le = y.le) = b4 at *
  generalize decide (x.se = y.se) = b5 at *
  generalize aSame x y = R at *
  unfold AS.V
  generalize x.es.length = n at *
  generalize y.es.length = m at *
  clear hl ha hb
  obtain ⟨t, a, es, l, s, v, le, se⟩ := x
  obtain ⟨t', a', es', l', s', v', le', se'⟩ := y
  dsimp only at *
  go_enter Try.func24, Try.ntmps24
  go_upto_region 1 with fail
  generalize hV : World.alloc (World.alloc w _) _ = w1
  have hb1 : Below w.heap.size w w1 := by subst hV; (repeat (first | with_reducible exact Below.refl _ _ | with_reducible assumption | with_reducible refine Below.drew ?_ | with_reducible refine Below.drewN ?_ _ | with_reducible refine Below.alloc1 ?_ _ | with_reducible refine Below.setCell1 ?_ (by first | omega | (simp; done) | (simp; omega)) _ | with_reducible refine Below.step ?_ (by with_reducible assumption)))
  have k0 : Bk w1 w.heap.size 51 (azC t a A n c l s v le se) := by subst hV; exact (Bk.new' w 51 (azC t a A n c l s v le se) _ rfl).alloc _
  have k1 : Bk w1 (w.heap.size + 1) 51 (azC t' a' B m d l' s' v' le' se') := by subst hV; exact Bk.new' (World.alloc w _) 51 (azC t' a' B m d l' s' v' le' se') _ (by simp)
  clear hV
  have k0_0 := k0.cell 0; have k0_f0 := k0.frozen 0; have k0_1 := k0.cell 1; have k0_f1 := k0.frozen 1; have k0_2 := k0.cell 2; have k0_f2 := k0.frozen 2; have k0_3 := k0.cell 3; have k0_f3 := k0.frozen 3; have k0_4 := k0.cell 4; have k0_f4 := k0.frozen 4; have k0_5 := k0.cell 5; have k0_f5 := k0.frozen 5; have k0_6 := k0.cell 6; have k0_f6 := k0.frozen 6; have k0_7 := k0.cell 7; have k0_f7 := k0.frozen 7; simp only [List.set_cons_zero, List.set_cons_succ, List.getElem?_cons_zero, List.getElem?_cons_succ] at k0_0 k0_1 k0_2 k0_3 k0_4 k0_5 k0_6 k0_7; have lt_k0 := k0.lt; have k1_0 := k1.cell 0; have k1_f0 := k1.frozen 0; have k1_1 := k1.cell 1; have k1_f1 := k1.frozen 1; have k1_2 := k1.cell 2; have k1_f2 := k1.frozen 2; have k1_3 := k1.cell 3; have k1_f3 := k1.frozen 3; have k1_4 := k1.cell 4; have k1_f4 := k1.frozen 4; have k1_5 := k1.cell 5; have k1_f5 := k1.frozen 5; have k1_6 := k1.cell 6; have k1_f6 := k1.frozen 6; have k1_7 := k1.cell 7; have k1_f7 := k1.frozen 7; simp only [List.set_cons_zero, List.set_cons_succ, List.getElem?_cons_zero, List.getElem?_cons_succ] at k1_0 k1_1 k1_2 k1_3 k1_4 k1_5 k1_6 k1_7; have lt_k1 := k1.lt
  cases b1 with
  | false => as_aux_lemma =>
    have HR := hide (show R = false from by rw [HC.out]; simp)
    go_wp2
    go_ret
    exact ⟨ret_bool HR.out.symm, hb1⟩
  | true =>
    go_wp2_with fail
    refine (hE _ hb1).mono ?_; rintro e x1 ⟨rfl, hx⟩
    replace k0 := k0.step hx; (try clear k0_0 k0_f0 k0_1 k0_f1 k0_2 k0_f2 k0_3 k0_f3 k0_4 k0_f4 k0_5 k0_f5 k0_6 k0_f6 k0_7 k0_f7); have k0_0 := k0.cell 0; have k0_f0 := k0.frozen 0; have k0_1 := k0.cell 1; have k0_f1 := k0.frozen 1; have k0_2 := k0.cell 2; have k0_f2 := k0.frozen 2; have k0_3 := k0.cell 3; have k0_f3 := k0.frozen 3; have k0_4 := k0.cell 4; have k0_f4 := k0.frozen 4; have k0_5 := k0.cell 5; have k0_f5 := k0.frozen 5; have k0_6 := k0.cell 6; have k0_f6 := k0.frozen 6; have k0_7 := k0.cell 7; have k0_f7 := k0.frozen 7; simp only [List.set_cons_zero, List.set_cons_succ, List.getElem?_cons_zero, List.getElem?_cons_succ] at k0_0 k0_1 k0_2 k0_3 k0_4 k0_5 k0_6 k0_7; (try clear lt_k0); have lt_k0 := k0.lt; replace k1 := k1.step hx; (try clear k1_0 k1_f0 k1_1 k1_f1 k1_2 k1_f2 k1_3 k1_f3 k1_4 k1_f4 k1_5 k1_f5 k1_6 k1_f6 k1_7 k1_f7); have k1_0 := k1.cell 0; have k1_f0 := k1.frozen 0; have k1_1 := k1.cell 1; have k1_f1 := k1.frozen 1; have k1_2 := k1.cell 2; have k1_f2 := k1.frozen 2; have k1_3 := k1.cell 3; have k1_f3 := k1.frozen 3; have k1_4 := k1.cell 4; have k1_f4 := k1.frozen 4; have k1_5 := k1.cell 5; have k1_f5 := k1.frozen 5; have k1_6 := k1.cell 6; have k1_f6 := k1.frozen 6; have k1_7 := k1.cell 7; have k1_f7 := k1.frozen 7; simp only [List.set_cons_zero, List.set_cons_succ, List.getElem?_cons_zero, List.getElem?_cons_succ] at k1_0 k1_1 k1_2 k1_3 k1_4 k1_5 k1_6 k1_7; (try clear lt_k1); have lt_k1 := k1.lt
    replace hb1 : Below w.heap.size w x1 := hb1.step hx
    clear hx
    cases b2 with
    | false => as_aux_lemma =>
      have HR := hide (show R = false from by rw [HC.out]; simp)
      go_wp2
      go_ret
      exact ⟨ret_bool HR.out.symm, hb1⟩
    | true =>
      cases b3 with
      | false => as_aux_lemma =>
        have HR := hide (show R = false from by rw [HC.out]; simp)
        go_wp2
        go_ret
        exact ⟨ret_bool HR.out.symm, hb1⟩
      | true =>
        cases b4 with
        | false => as_aux_lemma =>
          have HR := hide (show R = false from by rw [HC.out]; simp)
          go_wp2
          go_ret
          exact ⟨ret_bool HR.out.symm, hb1⟩
        | true =>
          have HR := hide (show R = b5 from by rw [HC.out]; simp)
          go_wp2
          go_ret
          exact ⟨ret_bool HR.out.symm, hb1⟩
end Go.Proofs.Ytolpiaehleefbaa
