/- Package admit: New, Usual, Would. -/
import Derived.Test.YtolpiaehleefbaaAdm
import Derived.Test.YtolpiaehleefbaaA2
namespace Go.Proofs.Ytolpiaehleefbaa
open Go.RowKit Go.Sort
set_option linter.unusedSimpArgs false
set_option linter.unusedVariables false

set_option maxRecDepth 100000 in
theorem admit_Usual_any (w : World) : Calls Try.prog 25 #[] w fun e w' => e = .returned aUsual.V ∧ Below w.heap.size w w' := by
  go_enter Try.func25, Try.ntmps25
  go_upto_region 1 with fail
  generalize hV : World.alloc w _ = w1
  have hb1 : Below w.heap.size w w1 := by subst hV; (repeat (first | with_reducible exact Below.refl _ _ | with_reducible assumption | with_reducible refine Below.drew ?_ | with_reducible refine Below.drewN ?_ _ | with_reducible refine Below.alloc1 ?_ _ | with_reducible refine Below.setCell1 ?_ (by first | omega | (simp; done) | (simp; omega)) _ | with_reducible refine Below.step ?_ (by with_reducible assumption)))
  have k0 : Bk w1 w.heap.size 44 [.int .i64 0, .int .i64 0, .int .i64 0, .int .i64 0, .int .i64 0, .int .i64 0, .int .i64 0, .int .i64 0, .int .i64 0, .int .i64 0, .int .i64 0, .int .i64 0, .int .i64 0, .int .i64 0, .int .i64 0, .int .i64 0, .int .i64 0, .int .i64 0, .int .i64 0] := by subst hV; (repeat (first | with_reducible exact Bk.new' _ _ _ _ (by simp; done) | with_reducible assumption | with_reducible refine Bk.alloc ?_ _ | with_reducible refine Bk.drew ?_ | with_reducible refine Bk.drewN ?_ _ | with_reducible refine Bk.step ?_ (by with_reducible assumption) | with_reducible refine Bk.far ?_ (by first | omega | (simp; done) | (simp; omega)) _))
  clear hV
  go_wp2_with fail
  refine (level_Usual_any _).mono ?_; rintro e x0 ⟨rfl, hx⟩
  replace k0 := k0.step hx
  replace hb1 : Below w.heap.size w x0 := hb1.step hx
  clear hx
  go_wp2_with fail
  refine (jitter_Usual_any _).mono ?_; rintro e x1 ⟨rfl, hx⟩
  replace k0 := k0.step hx
  replace hb1 : Below w.heap.size w x1 := hb1.step hx
  clear hx
  go_wp2_with (first | (refine wpList_store_row rfl 44 _ _ rfl _ (acC 8 2 3 1 (u3 50 75 90) (u3 40 60 80) 5 uLo uHi).toArray rfl rfl _ _ k0 (by kernel_rfl) (by kernel_rfl) (by kernel_rfl) ?_))
  have k1 := k0.row (acC 8 2 3 1 (u3 50 75 90) (u3 40 60 80) 5 uLo uHi)
  refine bodyPost_ret (v := aUsual.V) ?_ rfl ⟨rfl, setRow_below hb1 (Nat.le_refl _) _⟩
  exact results_cell_row rfl _ _ w.heap.size _ _ (0, 0) _ rfl k1 Try.underlying44 rfl (by kernel_rfl)
set_option maxRecDepth 100000 in
set_option maxHeartbeats 4000000 in
theorem admit_New_any (c : AC) (w : World) : Calls Try.prog 12 #[c.V] w fun e w' => e = .returned (.tuple #[(aNew c).1.V none 0, .int .i64 (aNew c).2]) ∧ Below w.heap.size w w' := by
  have h0 := fun W => admit_Check_any c W
  have h1 := fun W => bucket_Full_any c.ab c.ar 0 W
  have HC := hide (show aNew c = if aCheck c ≠ 0 then (⟨0, 0, [], 0, 0, 0, 0, 0⟩, aCheck c) else (⟨c.ab, 0, [], 0, 0, -1, 0, 0⟩, 0) from rfl)
  have e0 : bHeld 0 0 1099511627776 = 0 := by kernel_rfl
  rw [e0] at h1
  unfold stV at h1
  dsimp only at h1
  generalize aCheck c = v0 at *
  generalize aNew c = R at *
  unfold AC.V at *
  obtain ⟨ab, ar, eb, er, up, dn, hold, lo, hi⟩ := c
  dsimp only at *
  go_enter Try.func12, Try.ntmps12
  go_upto_region 1 with fail
  generalize hV : World.alloc (World.alloc w _) _ = w1
  have hb1 : Below w.heap.size w w1 := by subst hV; (repeat (first | with_reducible exact Below.refl _ _ | with_reducible assumption | with_reducible refine Below.drew ?_ | with_reducible refine Below.drewN ?_ _ | with_reducible refine Below.alloc1 ?_ _ | with_reducible refine Below.setCell1 ?_ (by first | omega | (simp; done) | (simp; omega)) _ | with_reducible refine Below.step ?_ (by with_reducible assumption)))
  have k0 : Bk w1 w.heap.size 44 (acC ab ar eb er up dn hold lo hi) := by subst hV; (repeat (first | with_reducible exact Bk.new' _ _ _ _ (by simp; done) | with_reducible assumption | with_reducible refine Bk.alloc ?_ _ | with_reducible refine Bk.drew ?_ | with_reducible refine Bk.drewN ?_ _ | with_reducible refine Bk.step ?_ (by with_reducible assumption) | with_reducible refine Bk.far ?_ (by first | omega | (simp; done) | (simp; omega)) _))
  have k1 : Bk w1 (w.heap.size + 1) 51 (azC 0 0 none 0 0 0 0 0 0 0) := by subst hV; (repeat (first | with_reducible exact Bk.new' _ _ _ _ (by simp; done) | with_reducible assumption | with_reducible refine Bk.alloc ?_ _ | with_reducible refine Bk.drew ?_ | with_reducible refine Bk.drewN ?_ _ | with_reducible refine Bk.step ?_ (by with_reducible assumption) | with_reducible refine Bk.far ?_ (by first | omega | (simp; done) | (simp; omega)) _))
  clear hV
  go_wp2_with (first | (refine wpList_load_row rfl 44 _ rfl _ rfl _ _ (0, 0) _ k0 Try.underlying44 rfl (by kernel_rfl) ?_))
  refine (h0 _).mono ?_; rintro e x0 ⟨rfl, hx⟩
  replace k0 := k0.step hx
  replace k1 := k1.step hx
  replace hb1 : Below w.heap.size w x0 := hb1.step hx
  clear hx h0
  have k0_0 := k0.cell 0; have k0_f0 := k0.frozen 0; have k0_1 := k0.cell 1; have k0_f1 := k0.frozen 1; simp only [List.set_cons_zero, List.set_cons_succ, List.getElem?_cons_zero, List.getElem?_cons_succ] at k0_0 k0_1; have lt_k0 := k0.lt; have k1_0 := k1.cell 0; have k1_f0 := k1.frozen 0; have k1_1 := k1.cell 1; have k1_f1 := k1.frozen 1; have k1_2 := k1.cell 2; have k1_f2 := k1.frozen 2; have k1_3 := k1.cell 3; have k1_f3 := k1.frozen 3; have k1_4 := k1.cell 4; have k1_f4 := k1.frozen 4; have k1_5 := k1.cell 5; have k1_f5 := k1.frozen 5; have k1_6 := k1.cell 6; have k1_f6 := k1.frozen 6; have k1_7 := k1.cell 7; have k1_f7 := k1.frozen 7; simp only [List.set_cons_zero, List.set_cons_succ, List.getElem?_cons_zero, List.getElem?_cons_succ] at k1_0 k1_1 k1_2 k1_3 k1_4 k1_5 k1_6 k1_7; have lt_k1 := k1.lt
  by_cases e0 : v0 = 0
  · subst e0
    have HR := hide (show R = (⟨ab, 0, [], 0, 0, -1, 0, 0⟩, 0) from by rw [HC.out, if_neg (by simp)])
    go_wp2_with fail
    refine (h1 _).mono ?_; rintro e x1 ⟨rfl, hx⟩
    replace k0 := k0.step hx; (try clear k0_0 k0_f0 k0_1 k0_f1); have k0_0 := k0.cell 0; have k0_f0 := k0.frozen 0; have k0_1 := k0.cell 1; have k0_f1 := k0.frozen 1; simp only [List.set_cons_zero, List.set_cons_succ, List.getElem?_cons_zero, List.getElem?_cons_succ] at k0_0 k0_1; (try clear lt_k0); have lt_k0 := k0.lt; replace k1 := k1.step hx; (try clear k1_0 k1_f0 k1_1 k1_f1 k1_2 k1_f2 k1_3 k1_f3 k1_4 k1_f4 k1_5 k1_f5 k1_6 k1_f6 k1_7 k1_f7); have k1_0 := k1.cell 0; have k1_f0 := k1.frozen 0; have k1_1 := k1.cell 1; have k1_f1 := k1.frozen 1; have k1_2 := k1.cell 2; have k1_f2 := k1.frozen 2; have k1_3 := k1.cell 3; have k1_f3 := k1.frozen 3; have k1_4 := k1.cell 4; have k1_f4 := k1.frozen 4; have k1_5 := k1.cell 5; have k1_f5 := k1.frozen 5; have k1_6 := k1.cell 6; have k1_f6 := k1.frozen 6; have k1_7 := k1.cell 7; have k1_f7 := k1.frozen 7; simp only [List.set_cons_zero, List.set_cons_succ, List.getElem?_cons_zero, List.getElem?_cons_succ] at k1_0 k1_1 k1_2 k1_3 k1_4 k1_5 k1_6 k1_7; (try clear lt_k1); have lt_k1 := k1.lt
    replace hb1 : Below w.heap.size w x1 := hb1.step hx
    clear hx
    go_wp2_with fail
    refine (level_New_any _).mono ?_; rintro e x2 ⟨rfl, hx⟩
    replace k0 := k0.step hx; (try clear k0_0 k0_f0 k0_1 k0_f1); have k0_0 := k0.cell 0; have k0_f0 := k0.frozen 0; have k0_1 := k0.cell 1; have k0_f1 := k0.frozen 1; simp only [List.set_cons_zero, List.set_cons_succ, List.getElem?_cons_zero, List.getElem?_cons_succ] at k0_0 k0_1; (try clear lt_k0); have lt_k0 := k0.lt; replace k1 := k1.step hx; (try clear k1_0 k1_f0 k1_1 k1_f1 k1_2 k1_f2 k1_3 k1_f3 k1_4 k1_f4 k1_5 k1_f5 k1_6 k1_f6 k1_7 k1_f7); have k1_0 := k1.cell 0; have k1_f0 := k1.frozen 0; have k1_1 := k1.cell 1; have k1_f1 := k1.frozen 1; have k1_2 := k1.cell 2; have k1_f2 := k1.frozen 2; have k1_3 := k1.cell 3; have k1_f3 := k1.frozen 3; have k1_4 := k1.cell 4; have k1_f4 := k1.frozen 4; have k1_5 := k1.cell 5; have k1_f5 := k1.frozen 5; have k1_6 := k1.cell 6; have k1_f6 := k1.frozen 6; have k1_7 := k1.cell 7; have k1_f7 := k1.frozen 7; simp only [List.set_cons_zero, List.set_cons_succ, List.getElem?_cons_zero, List.getElem?_cons_succ] at k1_0 k1_1 k1_2 k1_3 k1_4 k1_5 k1_6 k1_7; (try clear lt_k1); have lt_k1 := k1.lt
    replace hb1 : Below w.heap.size w x2 := hb1.step hx
    clear hx
    go_wp2
    exact bodyPost_ret (v := .tuple #[azV ab 0 none 0 0 0 0 (-1) 0 0, .int .i64 0]) (by simp only [results, Try.results12]; go_simp) rfl ⟨by rw [HR.out]; rfl, by (repeat (first | with_reducible exact Below.refl _ _ | with_reducible assumption | with_reducible refine Below.drew ?_ | with_reducible refine Below.drewN ?_ _ | with_reducible refine Below.alloc1 ?_ _ | with_reducible refine Below.setCell1 ?_ (by first | omega | (simp; done) | (simp; omega)) _ | with_reducible refine Below.step ?_ (by with_reducible assumption)))⟩
  · have hne : (v0 != 0) = true := by simpa using e0
    have HR := hide (show R = (⟨0, 0, [], 0, 0, 0, 0, 0⟩, v0) from by rw [HC.out, if_pos e0])
    clear e0
    go_wp2
    exact bodyPost_ret (v := .tuple #[azV 0 0 none 0 0 0 0 0 0 0, .int .i64 v0]) (by simp only [results, Try.results12]; go_simp) rfl ⟨by rw [HR.out]; rfl, by (repeat (first | with_reducible exact Below.refl _ _ | with_reducible assumption | with_reducible refine Below.drew ?_ | with_reducible refine Below.drewN ?_ _ | with_reducible refine Below.alloc1 ?_ _ | with_reducible refine Below.setCell1 ?_ (by first | omega | (simp; done) | (simp; omega)) _ | with_reducible refine Below.step ?_ (by with_reducible assumption)))⟩
set_option maxRecDepth 100000 in
set_option maxHeartbeats 8000000 in
theorem admit_Would_any (c : AC) (x : AS) (A : Option Addr) (d : Nat) (src now : Int) (w : World) (hl : x.es.length ≤ 1000) (ha : Rd w w.heap.size A (enR x.es)) :
    Calls Try.prog 16 #[c.V, x.V A d, .int .i64 src, .int .i64 now] w fun e w' => e = .returned (.int .i64 (aWould c x src now)) ∧ Below w.heap.size w w' := by
  have h0 := fun (W : World) (h : Below w.heap.size w W) => admit_Fine_any c x A d W hl ((ha.below h).more h.size)
  have h1 := fun W => admit_in_any src 0 65535 W
  have h2 := fun W => level_Allows_any x.l 0 W
  have h3 := fun W => bucket_Level_any c.ab c.ar x.t x.a now W
  have h5 := fun (W : World) (h : Below w.heap.size w W) => source_Take_any A d c.eb c.er x.es src now W hl ((ha.below h).more h.size)
  have HC := hide (show aWould c x src now = if aFine c x ≠ 0 then aFine c x else if vIn src 0 65535 = false then 2 else if vAllows x.l 0 = false then 15 else if bLevel c.ab c.ar x.t x.a now = 0 then 14 else (eTake c.eb c.er x.es src now).2 from rfl)
  generalize aFine c x = v0 at *
  generalize vIn src 0 65535 = b1 at *
  generalize vAllows x.l 0 = b2 at *
  generalize bLevel c.ab c.ar x.t x.a now = v3 at *
  generalize eTake c.eb c.er x.es src now = T at *
  generalize aWould c x src now = R at *
  unfold AC.V AS.V at *
  generalize x.es.length = n at *
  clear hl ha
  obtain ⟨ab, ar, eb, er, up, dn, hold, lo, hi⟩ := c
  obtain ⟨t, a, es, l, s, v, le, se⟩ := x
  dsimp only at *
  go_enter Try.func16, Try.ntmps16
  go_upto_region 1 with fail
  generalize hV : World.alloc (World.alloc w _) _ = w1
  have hb1 : Below w.heap.size w w1 := by subst hV; (repeat (first | with_reducible exact Below.refl _ _ | with_reducible assumption | with_reducible refine Below.drew ?_ | with_reducible refine Below.drewN ?_ _ | with_reducible refine Below.alloc1 ?_ _ | with_reducible refine Below.setCell1 ?_ (by first | omega | (simp; done) | (simp; omega)) _ | with_reducible refine Below.step ?_ (by with_reducible assumption)))
  have k0 : Bk w1 w.heap.size 44 (acC ab ar eb er up dn hold lo hi) := by subst hV; (repeat (first | with_reducible exact Bk.new' _ _ _ _ (by simp; done) | with_reducible assumption | with_reducible refine Bk.alloc ?_ _ | with_reducible refine Bk.drew ?_ | with_reducible refine Bk.drewN ?_ _ | with_reducible refine Bk.step ?_ (by with_reducible assumption) | with_reducible refine Bk.far ?_ (by first | omega | (simp; done) | (simp; omega)) _))
  have k1 : Bk w1 (w.heap.size + 1) 51 (azC t a A n d l s v le se) := by subst hV; (repeat (first | with_reducible exact Bk.new' _ _ _ _ (by simp; done) | with_reducible assumption | with_reducible refine Bk.alloc ?_ _ | with_reducible refine Bk.drew ?_ | with_reducible refine Bk.drewN ?_ _ | with_reducible refine Bk.step ?_ (by with_reducible assumption) | with_reducible refine Bk.far ?_ (by first | omega | (simp; done) | (simp; omega)) _))
  clear hV
  go_wp2_with (first | (refine wpList_load_row rfl 44 _ rfl _ rfl _ _ (0, 0) _ k0 Try.underlying44 rfl (by kernel_rfl) ?_) | (refine wpList_load_row rfl 51 _ rfl _ rfl _ _ (0, 0) _ k1 Try.underlying51 rfl (by kernel_rfl) ?_))
  refine (h0 _ hb1).mono ?_; rintro e x0 ⟨rfl, hx⟩
  replace k0 := k0.step hx
  replace k1 := k1.step hx
  replace hb1 : Below w.heap.size w x0 := hb1.step hx
  clear hx h0
  by_cases e0 : v0 = 0
  · subst e0
    have HC2 := HC.out
    rw [if_neg (by simp)] at HC2
    replace HC := hide HC2
    clear HC2
    go_wp2_with fail
    refine (h1 _).mono ?_; rintro e x1 ⟨rfl, rfl⟩
    cases b1 with
    | false => as_aux_lemma =>
      have HR := hide (show R = 2 from by rw [HC.out, if_pos rfl])
      go_wp2
      go_ret
      exact ⟨ret_int HR.out.symm, hb1⟩
    | true =>
      have HC2 := HC.out
      rw [if_neg (by simp)] at HC2
      replace HC := hide HC2
      clear HC2
      have k0_0 := k0.cell 0; have k0_f0 := k0.frozen 0; have k0_1 := k0.cell 1; have k0_f1 := k0.frozen 1; have k0_2 := k0.cell 2; have k0_f2 := k0.frozen 2; have k0_3 := k0.cell 3; have k0_f3 := k0.frozen 3; simp only [List.set_cons_zero, List.set_cons_succ, List.getElem?_cons_zero, List.getElem?_cons_succ] at k0_0 k0_1 k0_2 k0_3; have lt_k0 := k0.lt; have k1_0 := k1.cell 0; have k1_f0 := k1.frozen 0; have k1_1 := k1.cell 1; have k1_f1 := k1.frozen 1; have k1_2 := k1.cell 2; have k1_f2 := k1.frozen 2; have k1_3 := k1.cell 3; have k1_f3 := k1.frozen 3; simp only [List.set_cons_zero, List.set_cons_succ, List.getElem?_cons_zero, List.getElem?_cons_succ] at k1_0 k1_1 k1_2 k1_3; have lt_k1 := k1.lt
      go_wp2_with fail
      refine (h2 _).mono ?_; rintro e x2 ⟨rfl, rfl⟩
      cases b2 with
      | false => as_aux_lemma =>
        have HR := hide (show R = 15 from by rw [HC.out, if_pos rfl])
        go_wp2
        go_ret
        exact ⟨ret_int HR.out.symm, hb1⟩
      | true =>
        have HC2 := HC.out
        rw [if_neg (by simp)] at HC2
        replace HC := hide HC2
        clear HC2
        go_wp2_with fail
        refine (h3 _).mono ?_; rintro e x3 ⟨rfl, hx⟩
        replace k0 := k0.step hx; (try clear k0_0 k0_f0 k0_1 k0_f1 k0_2 k0_f2 k0_3 k0_f3); have k0_0 := k0.cell 0; have k0_f0 := k0.frozen 0; have k0_1 := k0.cell 1; have k0_f1 := k0.frozen 1; have k0_2 := k0.cell 2; have k0_f2 := k0.frozen 2; have k0_3 := k0.cell 3; have k0_f3 := k0.frozen 3; simp only [List.set_cons_zero, List.set_cons_succ, List.getElem?_cons_zero, List.getElem?_cons_succ] at k0_0 k0_1 k0_2 k0_3; (try clear lt_k0); have lt_k0 := k0.lt; replace k1 := k1.step hx; (try clear k1_0 k1_f0 k1_1 k1_f1 k1_2 k1_f2 k1_3 k1_f3); have k1_0 := k1.cell 0; have k1_f0 := k1.frozen 0; have k1_1 := k1.cell 1; have k1_f1 := k1.frozen 1; have k1_2 := k1.cell 2; have k1_f2 := k1.frozen 2; have k1_3 := k1.cell 3; have k1_f3 := k1.frozen 3; simp only [List.set_cons_zero, List.set_cons_succ, List.getElem?_cons_zero, List.getElem?_cons_succ] at k1_0 k1_1 k1_2 k1_3; (try clear lt_k1); have lt_k1 := k1.lt
        replace hb1 : Below w.heap.size w x3 := hb1.step hx
        clear hx
        by_cases e3 : v3 = 0
        · subst e3
          have HR := hide (show R = 14 from by rw [HC.out, if_pos rfl])
          go_wp2
          go_ret
          exact ⟨ret_int HR.out.symm, hb1⟩
        · have hne : (v3 == 0) = false := by simpa using e3
          have HR := hide (show R = T.2 from by rw [HC.out, if_neg e3])
          clear e3
          go_wp2_with fail
          refine (h5 _ hb1).mono ?_; rintro e x4 ⟨B, dB, rfl, _, hx⟩
          (try clear k0_0 k0_f0 k0_1 k0_f1 k0_2 k0_f2 k0_3 k0_f3 lt_k0) ; (try clear k1_0 k1_f0 k1_1 k1_f1 k1_2 k1_f2 k1_3 k1_f3 lt_k1)
          go_wp2
          go_ret
          exact ⟨ret_int HR.out.symm, hb1.step hx⟩
  · have hne : (v0 != 0) = true := by simpa using e0
    have HR := hide (show R = v0 from by rw [HC.out, if_pos e0])
    clear e0
    go_wp2
    go_ret
    exact ⟨ret_int HR.out.symm, hb1⟩
end Go.Proofs.Ytolpiaehleefbaa
