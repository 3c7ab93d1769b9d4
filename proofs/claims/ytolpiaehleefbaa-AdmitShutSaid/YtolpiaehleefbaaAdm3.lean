/- Package admit: Ask. -/
import Derived.Test.YtolpiaehleefbaaAdm2
namespace Go.Proofs.Ytolpiaehleefbaa
open Go.RowKit Go.Sort
set_option linter.unusedSimpArgs false
set_option linter.unusedVariables false

theorem aFine_t {c : AC} {x : AS} (h : aFine c x = 0) : aCheck c = 0 ∧ (0 ≤ x.le ∧ x.le ≤ 1099511627776) ∧ (0 ≤ x.se ∧ x.se ≤ 1099511627776) ∧ vFine x.l x.s x.v = true ∧ bFine c.ab c.ar x.t x.a = true ∧ eCheck c.eb c.er x.es = 0 := by
  unfold aFine at h
  split at h
  · rename_i h1; exact absurd h h1
  · rename_i h1
    split at h
    · cases h
    · rename_i h2
      unfold aGood at h2
      simp only [Bool.not_eq_false, Bool.and_eq_true] at h2
      obtain ⟨⟨⟨g1, g2⟩, g3⟩, g4⟩ := h2
      exact ⟨by simpa using h1, vIn_t g1, vIn_t g2, g3, g4, h⟩
set_option maxRecDepth 100000 in
set_option maxHeartbeats 16000000 in
theorem admit_Ask_ty (c : AC) (x : AS) (A : Option Addr) (d : Nat) (src now draw : Int) (hd : 0 ≤ draw ∧ draw ≤ 18446744073709551615) (w : World) (hl : x.es.length ≤ 1000) (ha : Rd w w.heap.size A (enR x.es)) :
    Calls Try.prog 10 #[c.V, x.V A d, .int .i64 src, .int .i64 now, .int .u64 draw] w fun e w' => ∃ A' d', e = .returned (.tuple #[(aAsk c x src now draw).1.V A' d', .agg #[.int .i64 (aAsk c x src now draw).2.1, .int .i64 (aAsk c x src now draw).2.2]]) ∧ Rd w' w'.heap.size A' (enR (aAsk c x src now draw).1.es) ∧ Fr1 w A A' x.es (aAsk c x src now draw).1.es ∧ Below w.heap.size w w' ∧ (TyA w 146 A → TyA w' 146 A') := by
  have hw := fun (W : World) (h : Below w.heap.size w W) => admit_Would_any c x A d src now W hl ((ha.below h).more h.size)
  have hf := fun (W : World) (h : Below w.heap.size w W) => admit_Fine_any c x A d W hl ((ha.below h).more h.size)
  have hT := fun W => bucket_Take_tup c.ab c.ar x.t x.a now 1 (by omega) W
  have hS := fun (W : World) (h : Below w.heap.size w W) => source_Take_own A d c.eb c.er x.es src now W hl ((ha.below h).more h.size)
  have hC := fun (W : World) (h : Below w.heap.size w W) => source_Clean_any A d c.eb c.er x.es now W hl ((ha.below h).more h.size)
  have hH := fun W => jitter_Hint_any c.lo c.hi x.l draw hd.1 hd.2 W
  have HB := hide (fun (h : aFine c x = 0) => And.intro (aFine_t h).2.1 (aFine_t h).2.2.1)
  have HC := hide (show aAsk c x src now draw = if aFine c x ≠ 0 then (x, aWould c x src now, 0) else if aWould c x src now = 2 then (x, 2, 0) else if aWould c x src now = 0 then (⟨(bTake c.ab c.ar x.t x.a now 1).1.1, (bTake c.ab c.ar x.t x.a now 1).1.2, (eTake c.eb c.er x.es src now).1, x.l, x.s, x.v, min (x.le + 1) 1099511627776, x.se⟩, 0, 0) else (⟨x.t, x.a, eClean c.eb c.er x.es now, x.l, x.s, x.v, x.le, min (x.se + 1) 1099511627776⟩, aWould c x src now, jHint c.lo c.hi x.l draw) from rfl)
  have hrow := hide ha
  generalize aFine c x = v0 at *
  generalize aWould c x src now = v1 at *
  generalize bTake c.ab c.ar x.t x.a now 1 = P at *
  generalize eTake c.eb c.er x.es src now = T at *
  generalize eClean c.eb c.er x.es now = z at *
  generalize jHint c.lo c.hi x.l draw = H at *
  generalize aAsk c x src now draw = R at *
  unfold AC.V AS.V at *
  obtain ⟨ab, ar, eb, er, up, dn, hold, lo, hi⟩ := c
  obtain ⟨t, a, es, l, s, v, le, se⟩ := x
  obtain ⟨⟨pt, pa⟩, pf⟩ := P
  obtain ⟨ts, te⟩ := T
  dsimp only at *
  clear ha
  go_enter Try.func10, Try.ntmps10
  go_upto_region 1 with fail
  generalize hV : World.alloc (World.alloc (World.alloc (World.alloc w _) _) _) _ = w1
  have hb1 : Below w.heap.size w w1 := by subst hV; (repeat (first | with_reducible exact Below.refl _ _ | with_reducible assumption | with_reducible refine Below.drew ?_ | with_reducible refine Below.drewN ?_ _ | with_reducible refine Below.alloc1 ?_ _ | with_reducible refine Below.setCell1 ?_ (by first | omega | (simp; done) | (simp; omega)) _ | with_reducible refine Below.step ?_ (by with_reducible assumption)))
  have k0 : Bk w1 w.heap.size 44 (acC ab ar eb er up dn hold lo hi) := by subst hV; (repeat (first | with_reducible exact Bk.new' _ _ _ _ (by simp; done) | with_reducible assumption | with_reducible refine Bk.alloc ?_ _ | with_reducible refine Bk.drew ?_ | with_reducible refine Bk.drewN ?_ _ | with_reducible refine Bk.step ?_ (by with_reducible assumption) | with_reducible refine Bk.far ?_ (by first | omega | (simp; done) | (simp; omega)) _))
  have k1 : Bk w1 (w.heap.size + 1) 51 (azC t a A es.length d l s v le se) := by subst hV; (repeat (first | with_reducible exact Bk.new' _ _ _ _ (by simp; done) | with_reducible assumption | with_reducible refine Bk.alloc ?_ _ | with_reducible refine Bk.drew ?_ | with_reducible refine Bk.drewN ?_ _ | with_reducible refine Bk.step ?_ (by with_reducible assumption) | with_reducible refine Bk.far ?_ (by first | omega | (simp; done) | (simp; omega)) _))
  have k2 : Bk w1 (w.heap.size + 1 + 1) 51 (azC 0 0 none 0 0 0 0 0 0 0) := by subst hV; (repeat (first | with_reducible exact Bk.new' _ _ _ _ (by simp; done) | with_reducible assumption | with_reducible refine Bk.alloc ?_ _ | with_reducible refine Bk.drew ?_ | with_reducible refine Bk.drewN ?_ _ | with_reducible refine Bk.step ?_ (by with_reducible assumption) | with_reducible refine Bk.far ?_ (by first | omega | (simp; done) | (simp; omega)) _))
  have k3 : Bk w1 (w.heap.size + 1 + 1 + 1) 56 [.int .i64 0, .int .i64 0] := by subst hV; (repeat (first | with_reducible exact Bk.new' _ _ _ _ (by simp; done) | with_reducible assumption | with_reducible refine Bk.alloc ?_ _ | with_reducible refine Bk.drew ?_ | with_reducible refine Bk.drewN ?_ _ | with_reducible refine Bk.step ?_ (by with_reducible assumption) | with_reducible refine Bk.far ?_ (by first | omega | (simp; done) | (simp; omega)) _))
  clear hV
  go_wp2_with (first | (refine wpList_load_row rfl 44 _ rfl _ rfl _ _ (0, 0) _ k0 Try.underlying44 rfl (by kernel_rfl) ?_) | (refine wpList_load_row rfl 51 _ rfl _ rfl _ _ (0, 0) _ k1 Try.underlying51 rfl (by kernel_rfl) ?_))
  refine (hw _ hb1).mono ?_; rintro e x0 ⟨rfl, hx⟩
  replace k0 := k0.step hx; replace k1 := k1.step hx; replace k2 := k2.step hx; replace k3 := k3.step hx
  replace hb1 : Below w.heap.size w x0 := hb1.step hx
  have hzx0 := hx.size
  clear hx
  go_wp2_with (first | (refine wpList_load_row rfl 44 _ rfl _ rfl _ _ (0, 0) _ k0 Try.underlying44 rfl (by kernel_rfl) ?_) | (refine wpList_load_row rfl 51 _ rfl _ rfl _ _ (0, 0) _ k1 Try.underlying51 rfl (by kernel_rfl) ?_))
  refine (hf _ hb1).mono ?_; rintro e x1 ⟨rfl, hx⟩
  replace k0 := k0.step hx; replace k1 := k1.step hx; replace k2 := k2.step hx; replace k3 := k3.step hx
  replace hb1 : Below w.heap.size w x1 := hb1.step hx
  have hzx1 := hx.size
  clear hx
  clear hw hf
  by_cases e0 : v0 = 0
  · obtain ⟨hle, hse⟩ := HB.out e0
    subst e0
    have HC2 := HC.out
    rw [if_neg (by simp)] at HC2
    replace HC := hide HC2
    clear HC2 HB
    by_cases e2 : v1 = 2
    · subst e2
      have HR := hide (show R = (⟨t, a, es, l, s, v, le, se⟩, 2, 0) from by rw [HC.out, if_pos rfl])
      clear HC
      have q3 := k3.rowFar (g := w.heap.size + 1 + 1) (by omega) (azC t a A es.length d l s v le se).toArray
      go_wp2_with (first | (refine wpList_load_row rfl 51 _ rfl _ rfl _ _ (0, 0) _ k1 Try.underlying51 rfl (by kernel_rfl) ?_) | (refine wpList_store_row rfl 51 _ _ rfl _ (azC t a A es.length d l s v le se).toArray rfl rfl _ _ k2 (by kernel_rfl) (by kernel_rfl) (by kernel_rfl) ?_) | (refine wpList_store_row rfl 56 _ _ rfl _ ([.int .i64 2, .int .i64 0]).toArray rfl rfl _ _ q3 (by kernel_rfl) (by kernel_rfl) (by kernel_rfl) ?_))
      have r2 := (k2.row (azC t a A es.length d l s v le se)).rowFar (g := w.heap.size + 1 + 1 + 1) (by omega) ([.int .i64 2, .int .i64 0]).toArray
      have r3 := q3.row ([.int .i64 2, .int .i64 0])
      have hb9 : Below w.heap.size w ((x1.setRow (w.heap.size + 1 + 1) (azC t a A es.length d l s v le se).toArray).setRow (w.heap.size + 1 + 1 + 1) ([.int .i64 2, .int .i64 0]).toArray) := setRow_below (setRow_below hb1 (by omega) _) (by omega) _
      refine bodyPost_ret (v := .tuple #[.agg (azC t a A es.length d l s v le se).toArray, .agg ([.int .i64 2, .int .i64 0]).toArray]) ?_ rfl ?_
      · exact results_cell_row2 rfl _ _ _ _ _ _ _ _ _ _ rfl rfl r2 r3 Try.underlying51 rfl (by kernel_rfl) Try.underlying56 rfl (by kernel_rfl)
      · rw [HR.out]
        exact ⟨A, d, rfl, (hrow.out.below hb9).more hb9.size, .inl ⟨rfl, rfl⟩, hb9, fun hq => hq.step hb9⟩
    by_cases e1 : v1 = 0
    · subst e1
      have HR := hide (show R = (⟨pt, pa, ts, l, s, v, min (le + 1) 1099511627776, se⟩, 0, 0) from by rw [HC.out, if_neg (by omega), if_pos rfl])
      clear HC e2 hC hH
      have k0_0 := k0.cell 0; have k0_f0 := k0.frozen 0; have k0_1 := k0.cell 1; have k0_f1 := k0.frozen 1; have k0_2 := k0.cell 2; have k0_f2 := k0.frozen 2; have k0_3 := k0.cell 3; have k0_f3 := k0.frozen 3; simp only [List.set_cons_zero, List.set_cons_succ, List.getElem?_cons_zero, List.getElem?_cons_succ] at k0_0 k0_1 k0_2 k0_3; have lt_k0 := k0.lt; have k1_0 := k1.cell 0; have k1_f0 := k1.frozen 0; have k1_1 := k1.cell 1; have k1_f1 := k1.frozen 1; have k1_2 := k1.cell 2; have k1_f2 := k1.frozen 2; have k1_3 := k1.cell 3; have k1_f3 := k1.frozen 3; have k1_4 := k1.cell 4; have k1_f4 := k1.frozen 4; have k1_5 := k1.cell 5; have k1_f5 := k1.frozen 5; have k1_6 := k1.cell 6; have k1_f6 := k1.frozen 6; have k1_7 := k1.cell 7; have k1_f7 := k1.frozen 7; simp only [List.set_cons_zero, List.set_cons_succ, List.getElem?_cons_zero, List.getElem?_cons_succ] at k1_0 k1_1 k1_2 k1_3 k1_4 k1_5 k1_6 k1_7; have lt_k1 := k1.lt
      go_wp2_with fail
      refine (hT _).mono ?_; rintro e x2 ⟨rfl, hx⟩
      replace k0 := k0.step hx; (try clear k0_0 k0_f0 k0_1 k0_f1 k0_2 k0_f2 k0_3 k0_f3); have k0_0 := k0.cell 0; have k0_f0 := k0.frozen 0; have k0_1 := k0.cell 1; have k0_f1 := k0.frozen 1; have k0_2 := k0.cell 2; have k0_f2 := k0.frozen 2; have k0_3 := k0.cell 3; have k0_f3 := k0.frozen 3; simp only [List.set_cons_zero, List.set_cons_succ, List.getElem?_cons_zero, List.getElem?_cons_succ] at k0_0 k0_1 k0_2 k0_3; (try clear lt_k0); have lt_k0 := k0.lt; replace k1 := k1.step hx; (try clear k1_0 k1_f0 k1_1 k1_f1 k1_2 k1_f2 k1_3 k1_f3 k1_4 k1_f4 k1_5 k1_f5 k1_6 k1_f6 k1_7 k1_f7); have k1_0 := k1.cell 0; have k1_f0 := k1.frozen 0; have k1_1 := k1.cell 1; have k1_f1 := k1.frozen 1; have k1_2 := k1.cell 2; have k1_f2 := k1.frozen 2; have k1_3 := k1.cell 3; have k1_f3 := k1.frozen 3; have k1_4 := k1.cell 4; have k1_f4 := k1.frozen 4; have k1_5 := k1.cell 5; have k1_f5 := k1.frozen 5; have k1_6 := k1.cell 6; have k1_f6 := k1.frozen 6; have k1_7 := k1.cell 7; have k1_f7 := k1.frozen 7; simp only [List.set_cons_zero, List.set_cons_succ, List.getElem?_cons_zero, List.getElem?_cons_succ] at k1_0 k1_1 k1_2 k1_3 k1_4 k1_5 k1_6 k1_7; (try clear lt_k1); have lt_k1 := k1.lt
      replace k2 := k2.step hx; replace k3 := k3.step hx
      replace hb1 : Below w.heap.size w x2 := hb1.step hx
      have hzx2 := hx.size
      clear hx hT
      go_upto_region 8 with fail
      (try clear k0_0 k0_f0 k0_1 k0_f1 k0_2 k0_f2 k0_3 k0_f3 lt_k0) ; (try clear k1_0 k1_f0 k1_1 k1_f1 k1_2 k1_f2 k1_3 k1_f3 k1_4 k1_f4 k1_5 k1_f5 k1_6 k1_f6 k1_7 k1_f7 lt_k1)
      generalize hV : World.setCell (World.setCell x2 _ _) _ _ = x3
      have hs3 : x2.heap.size ≤ x3.heap.size := by subst hV; simp [World.setCell]
      replace hb1 : Below w.heap.size w x3 := by subst hV; exact (hb1.setCell (by dsimp only; omega) _).setCell (by dsimp only; omega) _
      replace k0 : Bk x3 w.heap.size 44 (acC ab ar eb er up dn hold lo hi) := by subst hV; exact (k0.far (by dsimp only; omega) _).far (by dsimp only; omega) _
      replace k1 : Bk x3 (w.heap.size + 1) 51 (azC pt pa A es.length d l s v le se) := by subst hV; exact (k1.set_ 0 _).set_ 1 _
      replace k2 : Bk x3 (w.heap.size + 1 + 1) 51 (azC 0 0 none 0 0 0 0 0 0 0) := by subst hV; exact (k2.far (by dsimp only; omega) _).far (by dsimp only; omega) _
      replace k3 : Bk x3 (w.heap.size + 1 + 1 + 1) 56 [.int .i64 0, .int .i64 0] := by subst hV; exact (k3.far (by dsimp only; omega) _).far (by dsimp only; omega) _
      have lk3 := k3.lt
      clear hV
      have k0_0 := k0.cell 0; have k0_f0 := k0.frozen 0; have k0_1 := k0.cell 1; have k0_f1 := k0.frozen 1; have k0_2 := k0.cell 2; have k0_f2 := k0.frozen 2; have k0_3 := k0.cell 3; have k0_f3 := k0.frozen 3; simp only [List.set_cons_zero, List.set_cons_succ, List.getElem?_cons_zero, List.getElem?_cons_succ] at k0_0 k0_1 k0_2 k0_3; have lt_k0 := k0.lt; have k1_0 := k1.cell 0; have k1_f0 := k1.frozen 0; have k1_1 := k1.cell 1; have k1_f1 := k1.frozen 1; have k1_2 := k1.cell 2; have k1_f2 := k1.frozen 2; have k1_3 := k1.cell 3; have k1_f3 := k1.frozen 3; have k1_4 := k1.cell 4; have k1_f4 := k1.frozen 4; have k1_5 := k1.cell 5; have k1_f5 := k1.frozen 5; have k1_6 := k1.cell 6; have k1_f6 := k1.frozen 6; have k1_7 := k1.cell 7; have k1_f7 := k1.frozen 7; simp only [List.set_cons_zero, List.set_cons_succ, List.getElem?_cons_zero, List.getElem?_cons_succ] at k1_0 k1_1 k1_2 k1_3 k1_4 k1_5 k1_6 k1_7; have lt_k1 := k1.lt
      go_wp2_with fail
      refine (hS _ hb1).mono ?_; rintro e x4 ⟨B, dB, rfl, oB, hx⟩
      replace k0 := k0.step hx; (try clear k0_0 k0_f0 k0_1 k0_f1 k0_2 k0_f2 k0_3 k0_f3); have k0_0 := k0.cell 0; have k0_f0 := k0.frozen 0; have k0_1 := k0.cell 1; have k0_f1 := k0.frozen 1; have k0_2 := k0.cell 2; have k0_f2 := k0.frozen 2; have k0_3 := k0.cell 3; have k0_f3 := k0.frozen 3; simp only [List.set_cons_zero, List.set_cons_succ, List.getElem?_cons_zero, List.getElem?_cons_succ] at k0_0 k0_1 k0_2 k0_3; (try clear lt_k0); have lt_k0 := k0.lt; replace k1 := k1.step hx; (try clear k1_0 k1_f0 k1_1 k1_f1 k1_2 k1_f2 k1_3 k1_f3 k1_4 k1_f4 k1_5 k1_f5 k1_6 k1_f6 k1_7 k1_f7); have k1_0 := k1.cell 0; have k1_f0 := k1.frozen 0; have k1_1 := k1.cell 1; have k1_f1 := k1.frozen 1; have k1_2 := k1.cell 2; have k1_f2 := k1.frozen 2; have k1_3 := k1.cell 3; have k1_f3 := k1.frozen 3; have k1_4 := k1.cell 4; have k1_f4 := k1.frozen 4; have k1_5 := k1.cell 5; have k1_f5 := k1.frozen 5; have k1_6 := k1.cell 6; have k1_f6 := k1.frozen 6; have k1_7 := k1.cell 7; have k1_f7 := k1.frozen 7; simp only [List.set_cons_zero, List.set_cons_succ, List.getElem?_cons_zero, List.getElem?_cons_succ] at k1_0 k1_1 k1_2 k1_3 k1_4 k1_5 k1_6 k1_7; (try clear lt_k1); have lt_k1 := k1.lt
      replace k2 := k2.step hx; replace k3 := k3.step hx
      replace hb1 : Below w.heap.size w x4 := hb1.step hx
      have hzx4 := hx.size
      clear hx hS
      go_upto_region 9 with fail
      (try clear k0_0 k0_f0 k0_1 k0_f1 k0_2 k0_f2 k0_3 k0_f3 lt_k0) ; (try clear k1_0 k1_f0 k1_1 k1_f1 k1_2 k1_f2 k1_3 k1_f3 k1_4 k1_f4 k1_5 k1_f5 k1_6 k1_f6 k1_7 k1_f7 lt_k1)
      generalize hV : World.setCell x4 _ _ = x5
      have hs5 : x4.heap.size ≤ x5.heap.size := by subst hV; simp [World.setCell]
      replace hb1 : Below w.heap.size w x5 := by subst hV; exact hb1.setCell (by dsimp only; omega) _
      replace k1 : Bk x5 (w.heap.size + 1) 51 (azC pt pa B ts.length dB l s v le se) := by subst hV; exact k1.set_ 2 _
      replace k2 : Bk x5 (w.heap.size + 1 + 1) 51 (azC 0 0 none 0 0 0 0 0 0 0) := by subst hV; exact k2.far (by dsimp only; omega) _
      replace k3 : Bk x5 (w.heap.size + 1 + 1 + 1) 56 [.int .i64 0, .int .i64 0] := by subst hV; exact k3.far (by dsimp only; omega) _
      have lk1 := k1.lt
      replace oB : x5.ownsRow x3.heap.size 146 3 (.slice B ts.length dB) ts.length (enR ts) := by subst hV; exact own_far oB (by dsimp only; omega) _
      clear hV k0
      have k1_0 := k1.cell 0; have k1_f0 := k1.frozen 0; have k1_1 := k1.cell 1; have k1_f1 := k1.frozen 1; have k1_2 := k1.cell 2; have k1_f2 := k1.frozen 2; have k1_3 := k1.cell 3; have k1_f3 := k1.frozen 3; have k1_4 := k1.cell 4; have k1_f4 := k1.frozen 4; have k1_5 := k1.cell 5; have k1_f5 := k1.frozen 5; have k1_6 := k1.cell 6; have k1_f6 := k1.frozen 6; have k1_7 := k1.cell 7; have k1_f7 := k1.frozen 7; simp only [List.set_cons_zero, List.set_cons_succ, List.getElem?_cons_zero, List.getElem?_cons_succ] at k1_0 k1_1 k1_2 k1_3 k1_4 k1_5 k1_6 k1_7; have lt_k1 := k1.lt
      go_upto_region 10 with fail
      (try clear k1_0 k1_f0 k1_1 k1_f1 k1_2 k1_f2 k1_3 k1_f3 k1_4 k1_f4 k1_5 k1_f5 k1_6 k1_f6 k1_7 k1_f7 lt_k1)
      obtain ⟨mn, hmn⟩ : ∃ m : Int, m = min (le + 1) 1099511627776 := ⟨_, rfl⟩
      rw [← hmn] at HR ⊢
      clear hmn
      generalize hV : World.setCell x5 _ _ = x6
      have hs6 : x5.heap.size ≤ x6.heap.size := by subst hV; simp [World.setCell]
      replace hb1 : Below w.heap.size w x6 := by subst hV; exact hb1.setCell (by dsimp only; omega) _
      replace k1 : Bk x6 (w.heap.size + 1) 51 (azC pt pa B ts.length dB l s v mn se) := by subst hV; exact k1.set_ 6 _
      replace k2 : Bk x6 (w.heap.size + 1 + 1) 51 (azC 0 0 none 0 0 0 0 0 0 0) := by subst hV; exact k2.far (by dsimp only; omega) _
      replace k3 : Bk x6 (w.heap.size + 1 + 1 + 1) 56 [.int .i64 0, .int .i64 0] := by subst hV; exact k3.far (by dsimp only; omega) _
      replace oB : x6.ownsRow x3.heap.size 146 3 (.slice B ts.length dB) ts.length (enR ts) := by subst hV; exact own_far oB (by dsimp only; omega) _
      have hBg := own_blk oB
      have rB := own_rd oB
      have tB := own_ty oB
      clear hV oB
      have q3 := k3.rowFar (g := w.heap.size + 1 + 1) (by omega) (azC pt pa B ts.length dB l s v mn se).toArray
      go_wp2_with (first | (refine wpList_load_row rfl 51 _ rfl _ rfl _ _ (0, 0) _ k1 Try.underlying51 rfl (by kernel_rfl) ?_) | (refine wpList_store_row rfl 51 _ _ rfl _ (azC pt pa B ts.length dB l s v mn se).toArray rfl rfl _ _ k2 (by kernel_rfl) (by kernel_rfl) (by kernel_rfl) ?_) | (refine wpList_store_row rfl 56 _ _ rfl _ ([.int .i64 0, .int .i64 0]).toArray rfl rfl _ _ q3 (by kernel_rfl) (by kernel_rfl) (by kernel_rfl) ?_))
      have r2 := (k2.row (azC pt pa B ts.length dB l s v mn se)).rowFar (g := w.heap.size + 1 + 1 + 1) (by omega) ([.int .i64 0, .int .i64 0]).toArray
      have r3 := q3.row ([.int .i64 0, .int .i64 0])
      have hb9 : Below w.heap.size w ((x6.setRow (w.heap.size + 1 + 1) (azC pt pa B ts.length dB l s v mn se).toArray).setRow (w.heap.size + 1 + 1 + 1) ([.int .i64 0, .int .i64 0]).toArray) := setRow_below (setRow_below hb1 (by omega) _) (by omega) _
      refine bodyPost_ret (v := .tuple #[.agg (azC pt pa B ts.length dB l s v mn se).toArray, .agg ([.int .i64 0, .int .i64 0]).toArray]) ?_ rfl ?_
      · exact results_cell_row2 rfl _ _ _ _ _ _ _ _ _ _ rfl rfl r2 r3 Try.underlying51 rfl (by kernel_rfl) Try.underlying56 rfl (by kernel_rfl)
      · rw [HR.out]
        exact ⟨B, dB, rfl, (rB.rowFar (fun ad e => by have := (hBg ad e).1; omega) _).rowFar (fun ad e => by have := (hBg ad e).1; omega) _, .inr (fun ad e => by have := (hBg ad e).1; omega), hb9, fun _ => (tB.rowFar (fun ad e => by have := (hBg ad e).1; omega) _).rowFar (fun ad e => by have := (hBg ad e).1; omega) _⟩
    · have hne1 : (v1 == 0) = false := by simpa using e1
      have hne2 : (v1 == 2) = false := by simpa using e2
      have HR := hide (show R = (⟨t, a, z, l, s, v, le, min (se + 1) 1099511627776⟩, v1, H) from by rw [HC.out, if_neg e2, if_neg e1])
      clear HC e2 e1 hT hS
      have k0_0 := k0.cell 0; have k0_f0 := k0.frozen 0; have k0_1 := k0.cell 1; have k0_f1 := k0.frozen 1; have k0_2 := k0.cell 2; have k0_f2 := k0.frozen 2; have k0_3 := k0.cell 3; have k0_f3 := k0.frozen 3; simp only [List.set_cons_zero, List.set_cons_succ, List.getElem?_cons_zero, List.getElem?_cons_succ] at k0_0 k0_1 k0_2 k0_3; have lt_k0 := k0.lt; have k1_0 := k1.cell 0; have k1_f0 := k1.frozen 0; have k1_1 := k1.cell 1; have k1_f1 := k1.frozen 1; have k1_2 := k1.cell 2; have k1_f2 := k1.frozen 2; have k1_3 := k1.cell 3; have k1_f3 := k1.frozen 3; have k1_4 := k1.cell 4; have k1_f4 := k1.frozen 4; have k1_5 := k1.cell 5; have k1_f5 := k1.frozen 5; have k1_6 := k1.cell 6; have k1_f6 := k1.frozen 6; have k1_7 := k1.cell 7; have k1_f7 := k1.frozen 7; simp only [List.set_cons_zero, List.set_cons_succ, List.getElem?_cons_zero, List.getElem?_cons_succ] at k1_0 k1_1 k1_2 k1_3 k1_4 k1_5 k1_6 k1_7; have lt_k1 := k1.lt
      go_wp2_with fail
      have lkc := k3.lt
      refine (hC _ hb1).mono ?_; rintro e x2 ⟨B, dB, rfl, oB, hx⟩
      replace k0 := k0.step hx; (try clear k0_0 k0_f0 k0_1 k0_f1 k0_2 k0_f2 k0_3 k0_f3); have k0_0 := k0.cell 0; have k0_f0 := k0.frozen 0; have k0_1 := k0.cell 1; have k0_f1 := k0.frozen 1; have k0_2 := k0.cell 2; have k0_f2 := k0.frozen 2; have k0_3 := k0.cell 3; have k0_f3 := k0.frozen 3; simp only [List.set_cons_zero, List.set_cons_succ, List.getElem?_cons_zero, List.getElem?_cons_succ] at k0_0 k0_1 k0_2 k0_3; (try clear lt_k0); have lt_k0 := k0.lt; replace k1 := k1.step hx; (try clear k1_0 k1_f0 k1_1 k1_f1 k1_2 k1_f2 k1_3 k1_f3 k1_4 k1_f4 k1_5 k1_f5 k1_6 k1_f6 k1_7 k1_f7); have k1_0 := k1.cell 0; have k1_f0 := k1.frozen 0; have k1_1 := k1.cell 1; have k1_f1 := k1.frozen 1; have k1_2 := k1.cell 2; have k1_f2 := k1.frozen 2; have k1_3 := k1.cell 3; have k1_f3 := k1.frozen 3; have k1_4 := k1.cell 4; have k1_f4 := k1.frozen 4; have k1_5 := k1.cell 5; have k1_f5 := k1.frozen 5; have k1_6 := k1.cell 6; have k1_f6 := k1.frozen 6; have k1_7 := k1.cell 7; have k1_f7 := k1.frozen 7; simp only [List.set_cons_zero, List.set_cons_succ, List.getElem?_cons_zero, List.getElem?_cons_succ] at k1_0 k1_1 k1_2 k1_3 k1_4 k1_5 k1_6 k1_7; (try clear lt_k1); have lt_k1 := k1.lt
      replace k2 := k2.step hx; replace k3 := k3.step hx
      replace hb1 : Below w.heap.size w x2 := hb1.step hx
      have hzx2 := hx.size
      clear hx hC
      go_upto_region 12 with fail
      (try clear k0_0 k0_f0 k0_1 k0_f1 k0_2 k0_f2 k0_3 k0_f3 lt_k0) ; (try clear k1_0 k1_f0 k1_1 k1_f1 k1_2 k1_f2 k1_3 k1_f3 k1_4 k1_f4 k1_5 k1_f5 k1_6 k1_f6 k1_7 k1_f7 lt_k1)
      generalize hV : World.setCell x2 _ _ = x3
      have hs3 : x2.heap.size ≤ x3.heap.size := by subst hV; simp [World.setCell]
      replace hb1 : Below w.heap.size w x3 := by subst hV; exact hb1.setCell (by dsimp only; omega) _
      replace k0 : Bk x3 w.heap.size 44 (acC ab ar eb er up dn hold lo hi) := by subst hV; exact k0.far (by dsimp only; omega) _
      replace k1 : Bk x3 (w.heap.size + 1) 51 (azC t a B z.length dB l s v le se) := by subst hV; exact k1.set_ 2 _
      replace k2 : Bk x3 (w.heap.size + 1 + 1) 51 (azC 0 0 none 0 0 0 0 0 0 0) := by subst hV; exact k2.far (by dsimp only; omega) _
      replace k3 : Bk x3 (w.heap.size + 1 + 1 + 1) 56 [.int .i64 0, .int .i64 0] := by subst hV; exact k3.far (by dsimp only; omega) _
      replace oB : x3.ownsRow x1.heap.size 146 3 (.slice B z.length dB) z.length (enR z) := by subst hV; exact own_far oB (by dsimp only; omega) _
      clear hV
      have k1_0 := k1.cell 0; have k1_f0 := k1.frozen 0; have k1_1 := k1.cell 1; have k1_f1 := k1.frozen 1; have k1_2 := k1.cell 2; have k1_f2 := k1.frozen 2; have k1_3 := k1.cell 3; have k1_f3 := k1.frozen 3; have k1_4 := k1.cell 4; have k1_f4 := k1.frozen 4; have k1_5 := k1.cell 5; have k1_f5 := k1.frozen 5; have k1_6 := k1.cell 6; have k1_f6 := k1.frozen 6; have k1_7 := k1.cell 7; have k1_f7 := k1.frozen 7; simp only [List.set_cons_zero, List.set_cons_succ, List.getElem?_cons_zero, List.getElem?_cons_succ] at k1_0 k1_1 k1_2 k1_3 k1_4 k1_5 k1_6 k1_7; have lt_k1 := k1.lt
      go_upto_region 13 with fail
      (try clear k1_0 k1_f0 k1_1 k1_f1 k1_2 k1_f2 k1_3 k1_f3 k1_4 k1_f4 k1_5 k1_f5 k1_6 k1_f6 k1_7 k1_f7 lt_k1)
      obtain ⟨se2, hmn⟩ : ∃ m : Int, m = min (se + 1) 1099511627776 := ⟨_, rfl⟩
      rw [← hmn] at HR ⊢
      clear hmn
      generalize hV : World.setCell x3 _ _ = x4
      have hs4 : x3.heap.size ≤ x4.heap.size := by subst hV; simp [World.setCell]
      replace hb1 : Below w.heap.size w x4 := by subst hV; exact hb1.setCell (by dsimp only; omega) _
      replace k0 : Bk x4 w.heap.size 44 (acC ab ar eb er up dn hold lo hi) := by subst hV; exact k0.far (by dsimp only; omega) _
      replace k1 : Bk x4 (w.heap.size + 1) 51 (azC t a B z.length dB l s v le se2) := by subst hV; exact k1.set_ 7 _
      replace k2 : Bk x4 (w.heap.size + 1 + 1) 51 (azC 0 0 none 0 0 0 0 0 0 0) := by subst hV; exact k2.far (by dsimp only; omega) _
      replace k3 : Bk x4 (w.heap.size + 1 + 1 + 1) 56 [.int .i64 0, .int .i64 0] := by subst hV; exact k3.far (by dsimp only; omega) _
      replace oB : x4.ownsRow x1.heap.size 146 3 (.slice B z.length dB) z.length (enR z) := by subst hV; exact own_far oB (by dsimp only; omega) _
      have hBg := own_blk oB
      have rB := own_rd oB
      have tB := own_ty oB
      clear hV oB
      have c0_11 := k0.cell 11; have c0_12 := k0.cell 12; have c0_13 := k0.cell 13; have c0_14 := k0.cell 14; have c0_15 := k0.cell 15; have c0_16 := k0.cell 16; have c0_17 := k0.cell 17; have c0_18 := k0.cell 18
      simp only [List.getElem?_cons_zero, List.getElem?_cons_succ] at c0_11 c0_12 c0_13 c0_14 c0_15 c0_16 c0_17 c0_18
      have k1_0 := k1.cell 0; have k1_f0 := k1.frozen 0; have k1_1 := k1.cell 1; have k1_f1 := k1.frozen 1; have k1_2 := k1.cell 2; have k1_f2 := k1.frozen 2; have k1_3 := k1.cell 3; have k1_f3 := k1.frozen 3; have k1_4 := k1.cell 4; have k1_f4 := k1.frozen 4; have k1_5 := k1.cell 5; have k1_f5 := k1.frozen 5; have k1_6 := k1.cell 6; have k1_f6 := k1.frozen 6; have k1_7 := k1.cell 7; have k1_f7 := k1.frozen 7; simp only [List.set_cons_zero, List.set_cons_succ, List.getElem?_cons_zero, List.getElem?_cons_succ] at k1_0 k1_1 k1_2 k1_3 k1_4 k1_5 k1_6 k1_7; have lt_k1 := k1.lt
      go_region_with ((go_at_call 34; refine (hH _).mono ?_; rintro e w5 ⟨rfl, hy5⟩; (have m1 := Bk.step (Bk.drew k1) hy5); (have m2 := Bk.step (Bk.drew k2) hy5); (have m3 := Bk.step (Bk.drew k3) hy5); have m1_0 := m1.cell 0; have m1_f0 := m1.frozen 0; have m1_1 := m1.cell 1; have m1_f1 := m1.frozen 1; have m1_2 := m1.cell 2; have m1_f2 := m1.frozen 2; have m1_3 := m1.cell 3; have m1_f3 := m1.frozen 3; have m1_4 := m1.cell 4; have m1_f4 := m1.frozen 4; have m1_5 := m1.cell 5; have m1_f5 := m1.frozen 5; have m1_6 := m1.cell 6; have m1_f6 := m1.frozen 6; have m1_7 := m1.cell 7; have m1_f7 := m1.frozen 7; simp only [List.set_cons_zero, List.set_cons_succ, List.getElem?_cons_zero, List.getElem?_cons_succ] at m1_0 m1_1 m1_2 m1_3 m1_4 m1_5 m1_6 m1_7; have lt_m1 := m1.lt; have m2_0 := m2.cell 0; have m2_f0 := m2.frozen 0; have m2_1 := m2.cell 1; have m2_f1 := m2.frozen 1; have m2_2 := m2.cell 2; have m2_f2 := m2.frozen 2; have m2_3 := m2.cell 3; have m2_f3 := m2.frozen 3; have m2_4 := m2.cell 4; have m2_f4 := m2.frozen 4; have m2_5 := m2.cell 5; have m2_f5 := m2.frozen 5; have m2_6 := m2.cell 6; have m2_f6 := m2.frozen 6; have m2_7 := m2.cell 7; have m2_f7 := m2.frozen 7; simp only [List.set_cons_zero, List.set_cons_succ, List.getElem?_cons_zero, List.getElem?_cons_succ] at m2_0 m2_1 m2_2 m2_3 m2_4 m2_5 m2_6 m2_7; have lt_m2 := m2.lt; have m3_0 := m3.cell 0; have m3_f0 := m3.frozen 0; have m3_1 := m3.cell 1; have m3_f1 := m3.frozen 1; simp only [List.set_cons_zero, List.set_cons_succ, List.getElem?_cons_zero, List.getElem?_cons_succ] at m3_0 m3_1; have lt_m3 := m3.lt))
      all_goals
        have hb5 : Below w.heap.size w w5 := (hb1.drew).step hy5
        have rB5 := Rd.step (rB.drew1) hy5
        have tB5 := TyA.step tB.drew hy5
        have hn2 : ∀ ad, B = some ad → ad.block ≠ w.heap.size + 1 + 1 := fun ad e => by have := (hBg ad e).1; omega
        have hn3 : ∀ ad, B = some ad → ad.block ≠ w.heap.size + 1 + 1 + 1 := fun ad e => by have := (hBg ad e).1; omega
        have r2 := ((((((((((m2.set_ 0 (.int .i64 t)).set_ 1 (.int .i64 a)).set_ 2 (.slice B z.length dB)).set_ 3 (.int .i64 l)).set_ 4 (.int .i64 s)).set_ 5 (.int .i64 v)).set_ 6 (.int .i64 le)).set_ 7 (.int .i64 se2)).far (p := ⟨w.heap.size + 1 + 1 + 1, 0, none⟩) (by dsimp only; omega) (.int .i64 v1)).far (p := ⟨w.heap.size + 1 + 1 + 1, 1, none⟩) (by dsimp only; omega) (.int .i64 H))
        have r3 := ((((((((((m3.far (p := ⟨w.heap.size + 1 + 1, 0, none⟩) (by dsimp only; omega) (.int .i64 t)).far (p := ⟨w.heap.size + 1 + 1, 1, none⟩) (by dsimp only; omega) (.int .i64 a)).far (p := ⟨w.heap.size + 1 + 1, 2, none⟩) (by dsimp only; omega) (.slice B z.length dB)).far (p := ⟨w.heap.size + 1 + 1, 3, none⟩) (by dsimp only; omega) (.int .i64 l)).far (p := ⟨w.heap.size + 1 + 1, 4, none⟩) (by dsimp only; omega) (.int .i64 s)).far (p := ⟨w.heap.size + 1 + 1, 5, none⟩) (by dsimp only; omega) (.int .i64 v)).far (p := ⟨w.heap.size + 1 + 1, 6, none⟩) (by dsimp only; omega) (.int .i64 le)).far (p := ⟨w.heap.size + 1 + 1, 7, none⟩) (by dsimp only; omega) (.int .i64 se2)).set_ 0 (.int .i64 v1)).set_ 1 (.int .i64 H))
        have hb9 := ((((((((((hb5.setCell (p := ⟨w.heap.size + 1 + 1, 0, none⟩) (by dsimp only; omega) (.int .i64 t)).setCell (p := ⟨w.heap.size + 1 + 1, 1, none⟩) (by dsimp only; omega) (.int .i64 a)).setCell (p := ⟨w.heap.size + 1 + 1, 2, none⟩) (by dsimp only; omega) (.slice B z.length dB)).setCell (p := ⟨w.heap.size + 1 + 1, 3, none⟩) (by dsimp only; omega) (.int .i64 l)).setCell (p := ⟨w.heap.size + 1 + 1, 4, none⟩) (by dsimp only; omega) (.int .i64 s)).setCell (p := ⟨w.heap.size + 1 + 1, 5, none⟩) (by dsimp only; omega) (.int .i64 v)).setCell (p := ⟨w.heap.size + 1 + 1, 6, none⟩) (by dsimp only; omega) (.int .i64 le)).setCell (p := ⟨w.heap.size + 1 + 1, 7, none⟩) (by dsimp only; omega) (.int .i64 se2)).setCell (p := ⟨w.heap.size + 1 + 1 + 1, 0, none⟩) (by dsimp only; omega) (.int .i64 v1)).setCell (p := ⟨w.heap.size + 1 + 1 + 1, 1, none⟩) (by dsimp only; omega) (.int .i64 H))
        have rB9 := ((((((((((rB5.keep1 (p := ⟨w.heap.size + 1 + 1, 0, none⟩) hn2 (.int .i64 t)).keep1 (p := ⟨w.heap.size + 1 + 1, 1, none⟩) hn2 (.int .i64 a)).keep1 (p := ⟨w.heap.size + 1 + 1, 2, none⟩) hn2 (.slice B z.length dB)).keep1 (p := ⟨w.heap.size + 1 + 1, 3, none⟩) hn2 (.int .i64 l)).keep1 (p := ⟨w.heap.size + 1 + 1, 4, none⟩) hn2 (.int .i64 s)).keep1 (p := ⟨w.heap.size + 1 + 1, 5, none⟩) hn2 (.int .i64 v)).keep1 (p := ⟨w.heap.size + 1 + 1, 6, none⟩) hn2 (.int .i64 le)).keep1 (p := ⟨w.heap.size + 1 + 1, 7, none⟩) hn2 (.int .i64 se2)).keep1 (p := ⟨w.heap.size + 1 + 1 + 1, 0, none⟩) hn3 (.int .i64 v1)).keep1 (p := ⟨w.heap.size + 1 + 1 + 1, 1, none⟩) hn3 (.int .i64 H))
        (try clear m1_0 m1_f0 m1_1 m1_f1 m1_2 m1_f2 m1_3 m1_f3 m1_4 m1_f4 m1_5 m1_f5 m1_6 m1_f6 m1_7 m1_f7 lt_m1) ; (try clear m2_0 m2_f0 m2_1 m2_f1 m2_2 m2_f2 m2_3 m2_f3 m2_4 m2_f4 m2_5 m2_f5 m2_6 m2_f6 m2_7 m2_f7 lt_m2) ; (try clear m3_0 m3_f0 m3_1 m3_f1 lt_m3) ; (try clear k1_0 k1_f0 k1_1 k1_f1 k1_2 k1_f2 k1_3 k1_f3 k1_4 k1_f4 k1_5 k1_f5 k1_6 k1_f6 k1_7 k1_f7 lt_k1)
        clear hb5 rB5 hy5 m1 m2 m3 k0 k1 k2 k3 hH
        go_wp2
        refine bodyPost_ret (v := .tuple #[.agg (azC t a B z.length dB l s v le se2).toArray, .agg #[.int .i64 v1, .int .i64 H]]) ?_ rfl ?_
        · exact results_cell_row2 rfl _ _ _ _ _ _ (azC t a B z.length dB l s v le se2) [.int .i64 v1, .int .i64 H] _ _ rfl rfl r2 r3 Try.underlying51 rfl (by kernel_rfl) Try.underlying56 rfl (by kernel_rfl)
        · rw [HR.out]
          exact ⟨B, dB, rfl, rB9.more (by simp [World.setCell]), .inr (fun ad e => by have := (hBg ad e).1; omega), hb9, fun _ => by repeat (first | with_reducible exact tB5 | with_reducible refine TyA.setc ?_ _ _)⟩
  · have hne : (v0 != 0) = true := by simpa using e0
    have HR := hide (show R = (⟨t, a, es, l, s, v, le, se⟩, v1, 0) from by rw [HC.out, if_pos e0])
    clear HC e0
    have q3 := k3.rowFar (g := w.heap.size + 1 + 1) (by omega) (azC t a A es.length d l s v le se).toArray
    go_wp2_with (first | (refine wpList_load_row rfl 51 _ rfl _ rfl _ _ (0, 0) _ k1 Try.underlying51 rfl (by kernel_rfl) ?_) | (refine wpList_store_row rfl 51 _ _ rfl _ (azC t a A es.length d l s v le se).toArray rfl rfl _ _ k2 (by kernel_rfl) (by kernel_rfl) (by kernel_rfl) ?_) | (refine wpList_store_row rfl 56 _ _ rfl _ ([.int .i64 v1, .int .i64 0]).toArray rfl rfl _ _ q3 (by kernel_rfl) (by kernel_rfl) (by kernel_rfl) ?_))
    have r2 := (k2.row (azC t a A es.length d l s v le se)).rowFar (g := w.heap.size + 1 + 1 + 1) (by omega) ([.int .i64 v1, .int .i64 0]).toArray
    have r3 := q3.row ([.int .i64 v1, .int .i64 0])
    have hb9 : Below w.heap.size w ((x1.setRow (w.heap.size + 1 + 1) (azC t a A es.length d l s v le se).toArray).setRow (w.heap.size + 1 + 1 + 1) ([.int .i64 v1, .int .i64 0]).toArray) := setRow_below (setRow_below hb1 (by omega) _) (by omega) _
    refine bodyPost_ret (v := .tuple #[.agg (azC t a A es.length d l s v le se).toArray, .agg ([.int .i64 v1, .int .i64 0]).toArray]) ?_ rfl ?_
    · exact results_cell_row2 rfl _ _ _ _ _ _ _ _ _ _ rfl rfl r2 r3 Try.underlying51 rfl (by kernel_rfl) Try.underlying56 rfl (by kernel_rfl)
    · rw [HR.out]
      exact ⟨A, d, rfl, (hrow.out.below hb9).more hb9.size, .inl ⟨rfl, rfl⟩, hb9, fun hq => hq.step hb9⟩
theorem admit_Ask_any (c : AC) (x : AS) (A : Option Addr) (d : Nat) (src now draw : Int) (hd : 0 ≤ draw ∧ draw ≤ 18446744073709551615) (w : World) (hl : x.es.length ≤ 1000) (ha : Rd w w.heap.size A (enR x.es)) :
    Calls Try.prog 10 #[c.V, x.V A d, .int .i64 src, .int .i64 now, .int .u64 draw] w fun e w' => ∃ A' d', e = .returned (.tuple #[(aAsk c x src now draw).1.V A' d', .agg #[.int .i64 (aAsk c x src now draw).2.1, .int .i64 (aAsk c x src now draw).2.2]]) ∧ Rd w' w'.heap.size A' (enR (aAsk c x src now draw).1.es) ∧ Fr1 w A A' x.es (aAsk c x src now draw).1.es ∧ Below w.heap.size w w' :=
  (admit_Ask_ty c x A d src now draw hd w hl ha).mono fun _ _ ⟨A', d', e, r, f, b, _⟩ => ⟨A', d', e, r, f, b⟩
end Go.Proofs.Ytolpiaehleefbaa
