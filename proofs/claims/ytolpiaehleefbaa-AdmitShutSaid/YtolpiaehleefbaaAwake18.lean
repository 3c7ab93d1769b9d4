/- callboylaw18: awake. -/
import Derived.Test.YtolpiaehleefbaaAwake18p
import Derived.Test.YtolpiaehleefbaaRef17c
import Derived.Test.YtolpiaehleefbaaA2
import Derived.Deep.DeepCutAuto
namespace Go.Proofs.Ytolpiaehleefbaa
open Go.RowKit Go.Sort
set_option linter.unusedSimpArgs false
set_option linter.unusedVariables false

theorem ver_neq (e h e' h' : Int) (w' : World) : (binOp .neq 56 (.agg #[.int .i64 e, .int .i64 h]) (.agg #[.int .i64 e', .int .i64 h'])).run Try.prog w' = .ok (.bool (!decide ((e, h) = (e', h')))) w' := by
  have hS : Try.prog.underlying 56 = some (.struct (Try.prog.fieldsOf 56)) := by kernel_rfl
  have hp : Try.prog.stoodInHeld 56 = false := by kernel_rfl
  rw [run_neq_struct, show (10000 : Nat) = 9999 + 1 from rfl, run_equalIn_agg w' 9999 56 _ _ hS hp]
  simp only [Program.fieldsOf, Try.underlying56]
  go_simp
  by_cases h0 : e = e' <;> by_cases h1 : h = h' <;> simp [h0, h1]
theorem ver_eql (e h e' h' : Int) (w' : World) : (binOp .eql 56 (.agg #[.int .i64 e, .int .i64 h]) (.agg #[.int .i64 e', .int .i64 h'])).run Try.prog w' = .ok (.bool (decide ((e, h) = (e', h')))) w' := by
  have hS : Try.prog.underlying 56 = some (.struct (Try.prog.fieldsOf 56)) := by kernel_rfl
  have hp : Try.prog.stoodInHeld 56 = false := by kernel_rfl
  rw [run_eql_struct, show (10000 : Nat) = 9999 + 1 from rfl, run_equalIn_agg w' 9999 56 _ _ hS hp]
  simp only [Program.fieldsOf, Try.underlying56]
  go_simp
  by_cases h0 : e = e' <;> by_cases h1 : h = h' <;> simp [h0, h1]
set_option maxRecDepth 100000 in
set_option maxHeartbeats 16000000 in
theorem awake18_any (w : World) : Calls Try.prog 7 #[] w fun e w' => e = .returned (.bool true) ∧ Below w.heap.size w w' := by
  have hN := fun W => admit_New_any aUsual W
  rw [wN] at hN
  have HN := hide hN
  clear hN
  go_enter Try.func7, Try.ntmps7
  go_wp2_with fail
  refine (admit_Usual_any _).mono ?_; rintro e w1 ⟨rfl, hb⟩
  have HW1 := hide hb.size
  have kz := Bk.new w1 44 [.int .i64 0, .int .i64 0, .int .i64 0, .int .i64 0, .int .i64 0, .int .i64 0, .int .i64 0, .int .i64 0, .int .i64 0, .int .i64 0, .int .i64 0, .int .i64 0, .int .i64 0, .int .i64 0, .int .i64 0, .int .i64 0, .int .i64 0, .int .i64 0, .int .i64 0]
  go_upto_region 2 with (first | (refine wpList_store_row rfl 44 _ _ rfl _ (acC 8 2 3 1 (u3 50 75 90) (u3 40 60 80) 5 uLo uHi).toArray rfl rfl _ _ kz (by kernel_rfl) (by kernel_rfl) (by kernel_rfl) ?_))
  have k0 := kz.row (acC 8 2 3 1 (u3 50 75 90) (u3 40 60 80) 5 uLo uHi)
  generalize hV : World.setRow _ _ _ = w2 at k0 ⊢
  have hy : Below w1.heap.size w1 w2 := by subst hV; exact setRow_below (by (repeat (first | with_reducible exact Below.refl _ _ | with_reducible assumption | with_reducible refine Below.drew ?_ | with_reducible refine Below.drewN ?_ _ | with_reducible refine Below.alloc1 ?_ _ | with_reducible refine Below.setCell1 ?_ (by first | omega | (simp; done) | (simp; omega)) _ | with_reducible refine Below.step ?_ (by with_reducible assumption)))) (Nat.le_refl _) _
  replace hb : Below w.heap.size w w2 := hb.step hy
  clear hV hy kz
  go_wp2_with (first | (refine wpList_load_row rfl 44 _ rfl _ rfl _ _ (0, 0) _ k0 Try.underlying44 rfl (by kernel_rfl) ?_))
  refine (HN.out _).mono ?_; rintro e w3 ⟨rfl, hx⟩
  replace k0 := k0.step hx
  replace hb := hb.step hx
  clear hx HN
  have lt02 := k0.lt
  have kz := Bk.new w3 51 [.int .i64 0, .int .i64 0, .slice none 0 0, .int .i64 0, .int .i64 0, .int .i64 0, .int .i64 0, .int .i64 0]
  go_upto_region 3 with (first | (refine wpList_store_row rfl 51 _ _ rfl _ ((wS 0).C none 0).toArray rfl rfl _ _ kz (by kernel_rfl) (by kernel_rfl) (by kernel_rfl) ?_))
  have k2 := kz.row ((wS 0).C none 0)
  generalize hV : World.setRow _ _ _ = w4 at k2 ⊢
  have hy : Below w3.heap.size w3 w4 := by subst hV; exact setRow_below (by (repeat (first | with_reducible exact Below.refl _ _ | with_reducible assumption | with_reducible refine Below.drew ?_ | with_reducible refine Below.drewN ?_ _ | with_reducible refine Below.alloc1 ?_ _ | with_reducible refine Below.setCell1 ?_ (by first | omega | (simp; done) | (simp; omega)) _ | with_reducible refine Below.step ?_ (by with_reducible assumption)))) (Nat.le_refl _) _
  replace k0 := k0.step hy
  replace hb := hb.step hy
  clear hV hy kz
  generalize w3.heap.size = g2 at *
  go_upto_region 4 with fail
  generalize hV : World.alloc w4 _ = w5
  have hy : Below w4.heap.size w4 w5 := by subst hV; (repeat (first | with_reducible exact Below.refl _ _ | with_reducible assumption | with_reducible refine Below.drew ?_ | with_reducible refine Below.drewN ?_ _ | with_reducible refine Below.alloc1 ?_ _ | with_reducible refine Below.setCell1 ?_ (by first | omega | (simp; done) | (simp; omega)) _ | with_reducible refine Below.step ?_ (by with_reducible assumption)))
  have k4 : Bk w5 w4.heap.size 56 [.int .i64 0, .int .i64 0] := by subst hV; (repeat (first | with_reducible exact Bk.new' _ _ _ _ (by simp; done) | with_reducible assumption | with_reducible refine Bk.alloc ?_ _ | with_reducible refine Bk.drew ?_ | with_reducible refine Bk.drewN ?_ _ | with_reducible refine Bk.step ?_ (by with_reducible assumption) | with_reducible refine Bk.far ?_ (by first | omega | (simp; done) | (simp; omega)) _))
  have lk2 := k2.lt
  replace k0 := k0.step hy
  replace k2 := k2.step hy
  replace hb := hb.step hy
  clear hV hy
  have lk4 := k4.lt
  generalize w4.heap.size = g4 at *
  have hgw : w.heap.size ≤ w1.heap.size := HW1.out
  generalize w1.heap.size = g0 at *
  clear HW1
  go_wp2_with fail
  go_loopw [5] (fun iv wr => ∃ (k : Nat) (A : Option Addr) (d : Nat), k ≤ 3 ∧ iv = .int .i64 k ∧ Bk wr g0 44 (acC 8 2 3 1 (u3 50 75 90) (u3 40 60 80) 5 uLo uHi) ∧ Bk wr g2 51 ((wS k).C A d) ∧ Bk wr g4 56 [.int .i64 0, .int .i64 0] ∧ Rd wr wr.heap.size A (enR (wS k).es) ∧ (enR (wS k).es ≠ [] → ∀ ad, A = some ad → g4 < ad.block) ∧ Below w.heap.size w wr) (fun iv _ => 3 - (intOf iv).toNat)
  case atStart => exact ⟨0, none, 0, by omega, rfl, k0, k2, k4, Rd.nil, fun h => absurd rfl h, hb⟩
  case round =>
    clear k0 k2 k4 hb lk4
    obtain ⟨k, A, d, hk, rfl, k0, k2, k4, rA, hA, hb⟩ := hrel
    have hes : (wS k).es.length ≤ 1000 := by
      have : k = 0 ∨ k = 1 ∨ k = 2 ∨ k = 3 := by omega
      rcases this with rfl | rfl | rfl | rfl <;> exact Nat.le_of_ble_eq_true rfl
    have lk4 := k4.lt
    by_cases hlt : k < 3
    · have hki : (k : Int) < 3 := by omega
      have hAs := fun W h => admit_Ask_any aUsual (wS k) A d 1 0 9 (by omega) W hes h
      rw [wAsk hlt] at hAs
      have HA := hide hA
      clear hA
      go_wp2_with (first | (refine wpList_load_row rfl 44 _ rfl _ rfl _ _ (0, 0) _ k0 Try.underlying44 rfl (by kernel_rfl) ?_) | (refine wpList_load_row rfl 51 _ rfl _ rfl _ _ (0, 0) _ k2 Try.underlying51 rfl (by kernel_rfl) ?_))
      refine (hAs _ rA).mono ?_; rintro e y1 ⟨A', d', rfl, rA', hfr, hx⟩
      have hA' : enR (wS (k + 1)).es ≠ [] → ∀ ad, A' = some ad → g4 < ad.block := fun hn ad e => by
        rcases hfr with ⟨rfl, e2⟩ | h
        · rw [e2] at hn; exact HA.out hn ad e
        · have := h ad e; omega
      have HA' := hide hA'
      clear hA' hfr HA
      replace k0 := k0.step hx; replace k2 := k2.step hx; replace k4 := k4.step hx
      replace hb := hb.step hx
      have hzy := hx.size
      clear hx hAs rA
      have q6 := (Bk.new y1 51 [.int .i64 0, .int .i64 0, .slice none 0 0, .int .i64 0, .int .i64 0, .int .i64 0, .int .i64 0, .int .i64 0]).alloc (.cells ([.int .i64 0, .int .i64 0] : List Value).toArray 56)
      have q7 := (Bk.new (y1.alloc (.cells ([.int .i64 0, .int .i64 0, .slice none 0 0, .int .i64 0, .int .i64 0, .int .i64 0, .int .i64 0, .int .i64 0] : List Value).toArray 51)) 56 [.int .i64 0, .int .i64 0]).rowFar (g := y1.heap.size) (by simp) ((wS (k + 1)).C A' d').toArray
      have hsz : (y1.alloc (.cells ([.int .i64 0, .int .i64 0, .slice none 0 0, .int .i64 0, .int .i64 0, .int .i64 0, .int .i64 0, .int .i64 0] : List Value).toArray 51)).heap.size = y1.heap.size + 1 := by simp
      rw [hsz] at q7
      go_upto_region 8 with (first | (refine wpList_store_row rfl 51 _ _ rfl _ ((wS (k + 1)).C A' d').toArray rfl rfl _ _ q6 (by kernel_rfl) (by kernel_rfl) (by kernel_rfl) ?_) | (refine wpList_store_row rfl 56 _ _ rfl _ ([.int .i64 0, .int .i64 0]).toArray rfl rfl _ _ q7 (by kernel_rfl) (by kernel_rfl) (by kernel_rfl) ?_))
      have k6 := (q6.row ((wS (k + 1)).C A' d')).rowFar (g := y1.heap.size + 1) (by omega) ([.int .i64 0, .int .i64 0] : List Value).toArray
      have k7 := q7.row [.int .i64 0, .int .i64 0]
      have a1 : Below y1.heap.size y1 ((y1.alloc (.cells ([.int .i64 0, .int .i64 0, .slice none 0 0, .int .i64 0, .int .i64 0, .int .i64 0, .int .i64 0, .int .i64 0] : List Value).toArray 51)).alloc (.cells ([.int .i64 0, .int .i64 0] : List Value).toArray 56)) := by (repeat (first | with_reducible exact Below.refl _ _ | with_reducible assumption | with_reducible refine Below.drew ?_ | with_reducible refine Below.drewN ?_ _ | with_reducible refine Below.alloc1 ?_ _ | with_reducible refine Below.setCell1 ?_ (by first | omega | (simp; done) | (simp; omega)) _ | with_reducible refine Below.step ?_ (by with_reducible assumption)))
      have hy := setRow_below (setRow_below a1 (Nat.le_refl _) ((wS (k + 1)).C A' d').toArray) (g := y1.heap.size + 1) (by omega) ([.int .i64 0, .int .i64 0] : List Value).toArray
      generalize hV : World.setRow (World.setRow _ _ _) _ _ = y2 at k6 k7 hy ⊢
      replace k0 := k0.step hy; replace k2 := k2.step hy; replace k4 := k4.step hy
      replace rA' := rA'.step hy
      replace hb := hb.step hy
      have hzy2 := hy.size
      clear hV hy q6 q7 hsz a1
      have hE := fun W => ver_neq 0 0 0 0 W
      go_upto_region 10 with (first | (refine wpList_load_row rfl 56 _ rfl _ rfl _ _ (0, 0) _ k7 Try.underlying56 rfl (by kernel_rfl) ?_))
      go_wp2_with (first | (refine wpList_load_row rfl 51 _ rfl _ rfl _ _ (0, 0) _ k6 Try.underlying51 rfl (by kernel_rfl) ?_) | (refine wpList_store_row rfl 51 _ _ rfl _ ((wS (k + 1)).C A' d').toArray rfl rfl _ _ k2 (by kernel_rfl) (by kernel_rfl) (by kernel_rfl) ?_))
      exact ⟨⟨k + 1, A', d', by omega, by go_num, k0.rowFar (by omega) _, k2.row ((wS (k + 1)).C A' d'), k4.rowFar (by omega) _, rA'.rowFarN (fun hn ad e => by have := HA'.out hn ad e; omega) _, HA'.out, setRow_below hb (by omega) _⟩, by simp [intOf]; omega⟩
    · as_aux_lemma =>
      have hk3 : k = 3 := by omega
      subst hk3
      have HA := hide hA
      clear hA hk hlt
      have hes2 : wT.es.length ≤ 1000 := Nat.le_of_ble_eq_true rfl
      have hAs := fun W h => admit_Ask_any aUsual (wS 3) A d 1 0 6 (by omega) W hes h
      rw [wAsk3] at hAs
      go_wp2_with (first | (refine wpList_load_row rfl 44 _ rfl _ rfl _ _ (0, 0) _ k0 Try.underlying44 rfl (by kernel_rfl) ?_) | (refine wpList_load_row rfl 51 _ rfl _ rfl _ _ (0, 0) _ k2 Try.underlying51 rfl (by kernel_rfl) ?_))
      refine (hAs _ rA).mono ?_; rintro e y1 ⟨A', d', rfl, rA', hfr, hx⟩
      have HA' := hide (show enR wT.es ≠ [] → ∀ ad, A' = some ad → g4 < ad.block from fun hn ad e => by
        rcases hfr with ⟨rfl, e2⟩ | h
        · rw [e2] at hn; exact HA.out hn ad e
        · have := h ad e; omega)
      clear hfr HA
      replace k0 := k0.step hx; replace k2 := k2.step hx; replace k4 := k4.step hx
      replace hb := hb.step hx
      have hzy := hx.size
      clear hx hAs rA
      have q4 := k4.rowFar (g := g2) (by omega) (wT.C A' d').toArray
      go_upto_region 12 with (first | (refine wpList_store_row rfl 51 _ _ rfl _ (wT.C A' d').toArray rfl rfl _ _ k2 (by kernel_rfl) (by kernel_rfl) (by kernel_rfl) ?_) | (refine wpList_store_row rfl 56 _ _ rfl _ ([.int .i64 14, .int .i64 3]).toArray rfl rfl _ _ q4 (by kernel_rfl) (by kernel_rfl) (by kernel_rfl) ?_))
      replace k2 := (k2.row (wT.C A' d')).rowFar (g := g4) (by omega) ([.int .i64 14, .int .i64 3] : List Value).toArray
      replace k4 := q4.row [.int .i64 14, .int .i64 3]
      replace k0 := (k0.rowFar (g := g2) (by omega) (wT.C A' d').toArray).rowFar (g := g4) (by omega) ([.int .i64 14, .int .i64 3] : List Value).toArray
      replace rA' := (rA'.rowFarN (g := g2) (fun hn ad e => by have := HA'.out hn ad e; omega) (wT.C A' d').toArray).rowFarN (g := g4) (fun hn ad e => by have := HA'.out hn ad e; omega) ([.int .i64 14, .int .i64 3] : List Value).toArray
      replace hb := setRow_below (setRow_below hb (g := g2) (by omega) (wT.C A' d').toArray) (g := g4) (by omega) ([.int .i64 14, .int .i64 3] : List Value).toArray
      generalize hV : World.setRow (World.setRow _ _ _) _ _ = y2 at k0 k2 k4 rA' hb ⊢
      clear hV q4 HA' hzy
      have hesA : wA.es.length ≤ 1000 := Nat.le_of_ble_eq_true rfl
      have hesB : wB.es.length ≤ 1000 := Nat.le_of_ble_eq_true rfl
      have hTk := fun W h => admit_Tick_any aUsual wT A' d' 100 1 W hes2 h
      rw [wTick] at hTk
      go_wp2_with (first | (refine wpList_load_row rfl 44 _ rfl _ rfl _ _ (0, 0) _ k0 Try.underlying44 rfl (by kernel_rfl) ?_) | (refine wpList_load_row rfl 51 _ rfl _ rfl _ _ (0, 0) _ k2 Try.underlying51 rfl (by kernel_rfl) ?_))
      refine (hTk _ rA').mono ?_; rintro e y3 ⟨rfl, hx⟩
      replace k0 := k0.step hx; replace k2 := k2.step hx; replace k4 := k4.step hx; replace rA' := rA'.step hx
      replace hb := hb.step hx
      clear hx hTk
      have kz := Bk.new y3 51 [.int .i64 0, .int .i64 0, .slice none 0 0, .int .i64 0, .int .i64 0, .int .i64 0, .int .i64 0, .int .i64 0]
      go_upto_region 13 with (first | (refine wpList_store_row rfl 51 _ _ rfl _ (wA.C A' d').toArray rfl rfl _ _ kz (by kernel_rfl) (by kernel_rfl) (by kernel_rfl) ?_))
      have k8 := kz.row (wA.C A' d')
      have hy := setRow_below (Below.alloc1 (Below.refl y3.heap.size y3) (.cells ([.int .i64 0, .int .i64 0, .slice none 0 0, .int .i64 0, .int .i64 0, .int .i64 0, .int .i64 0, .int .i64 0] : List Value).toArray 51)) (Nat.le_refl _) (wA.C A' d').toArray
      generalize hV : World.setRow _ _ _ = y4 at k8 hy ⊢
      replace k0 := k0.step hy; replace k2 := k2.step hy; replace k4 := k4.step hy; replace rA' := rA'.step hy
      replace hb := hb.step hy
      clear hV hy kz
      have hAs := fun W h => admit_Ask_any aUsual wA A' d' 2 1 5 (by omega) W hesA h
      rw [wAskB] at hAs
      go_wp2_with (first | (refine wpList_load_row rfl 44 _ rfl _ rfl _ _ (0, 0) _ k0 Try.underlying44 rfl (by kernel_rfl) ?_) | (refine wpList_load_row rfl 51 _ rfl _ rfl _ _ (0, 0) _ k8 Try.underlying51 rfl (by kernel_rfl) ?_))
      refine (hAs _ rA').mono ?_; rintro e y5 ⟨A9, d9, rfl, r9, _, hx⟩
      replace k0 := k0.step hx; replace k2 := k2.step hx; replace k4 := k4.step hx; replace k8 := k8.step hx; replace rA' := rA'.step hx
      replace hb := hb.step hx
      clear hx hAs
      have q6 := (Bk.new y5 51 [.int .i64 0, .int .i64 0, .slice none 0 0, .int .i64 0, .int .i64 0, .int .i64 0, .int .i64 0, .int .i64 0]).alloc (.cells ([.int .i64 0, .int .i64 0] : List Value).toArray 56)
      have q7 := (Bk.new (y5.alloc (.cells ([.int .i64 0, .int .i64 0, .slice none 0 0, .int .i64 0, .int .i64 0, .int .i64 0, .int .i64 0, .int .i64 0] : List Value).toArray 51)) 56 [.int .i64 0, .int .i64 0]).rowFar (g := y5.heap.size) (by simp) (wB.C A9 d9).toArray
      have hsz : (y5.alloc (.cells ([.int .i64 0, .int .i64 0, .slice none 0 0, .int .i64 0, .int .i64 0, .int .i64 0, .int .i64 0, .int .i64 0] : List Value).toArray 51)).heap.size = y5.heap.size + 1 := by simp
      rw [hsz] at q7
      go_upto_region 14 with (first | (refine wpList_store_row rfl 51 _ _ rfl _ (wB.C A9 d9).toArray rfl rfl _ _ q6 (by kernel_rfl) (by kernel_rfl) (by kernel_rfl) ?_) | (refine wpList_store_row rfl 56 _ _ rfl _ ([.int .i64 15, .int .i64 65]).toArray rfl rfl _ _ q7 (by kernel_rfl) (by kernel_rfl) (by kernel_rfl) ?_))
      have k9 := (q6.row (wB.C A9 d9)).rowFar (g := y5.heap.size + 1) (by omega) ([.int .i64 15, .int .i64 65] : List Value).toArray
      have k10 := q7.row [.int .i64 15, .int .i64 65]
      have a1 : Below y5.heap.size y5 ((y5.alloc (.cells ([.int .i64 0, .int .i64 0, .slice none 0 0, .int .i64 0, .int .i64 0, .int .i64 0, .int .i64 0, .int .i64 0] : List Value).toArray 51)).alloc (.cells ([.int .i64 0, .int .i64 0] : List Value).toArray 56)) := by (repeat (first | with_reducible exact Below.refl _ _ | with_reducible assumption | with_reducible refine Below.drew ?_ | with_reducible refine Below.drewN ?_ _ | with_reducible refine Below.alloc1 ?_ _ | with_reducible refine Below.setCell1 ?_ (by first | omega | (simp; done) | (simp; omega)) _ | with_reducible refine Below.step ?_ (by with_reducible assumption)))
      have hy := setRow_below (setRow_below a1 (Nat.le_refl _) (wB.C A9 d9).toArray) (g := y5.heap.size + 1) (by omega) ([.int .i64 15, .int .i64 65] : List Value).toArray
      generalize hV : World.setRow (World.setRow _ _ _) _ _ = y6 at k9 k10 hy ⊢
      replace k0 := k0.step hy
      replace k2 := k2.step hy
      replace k4 := k4.step hy
      replace k8 := k8.step hy
      replace rA' := rA'.step hy
      replace r9 := r9.step hy
      replace hb := hb.step hy
      clear hV hy q6 q7 hsz a1
      have hAs := fun W h => admit_Ask_any aUsual wA A' d' (-1) 1 5 (by omega) W hesA h
      rw [wAskX] at hAs
      go_wp2_with (first | (refine wpList_load_row rfl 44 _ rfl _ rfl _ _ (0, 0) _ k0 Try.underlying44 rfl (by kernel_rfl) ?_) | (refine wpList_load_row rfl 51 _ rfl _ rfl _ _ (0, 0) _ k8 Try.underlying51 rfl (by kernel_rfl) ?_))
      refine (hAs _ rA').mono ?_; rintro e y7 ⟨A11, d11, rfl, r11, _, hx⟩
      replace k0 := k0.step hx; replace k2 := k2.step hx; replace k4 := k4.step hx; replace k8 := k8.step hx; replace k9 := k9.step hx; replace k10 := k10.step hx; replace rA' := rA'.step hx; replace r9 := r9.step hx
      replace hb := hb.step hx
      clear hx hAs r11
      have q6 := (Bk.new y7 51 [.int .i64 0, .int .i64 0, .slice none 0 0, .int .i64 0, .int .i64 0, .int .i64 0, .int .i64 0, .int .i64 0]).alloc (.cells ([.int .i64 0, .int .i64 0] : List Value).toArray 56)
      have q7 := (Bk.new (y7.alloc (.cells ([.int .i64 0, .int .i64 0, .slice none 0 0, .int .i64 0, .int .i64 0, .int .i64 0, .int .i64 0, .int .i64 0] : List Value).toArray 51)) 56 [.int .i64 0, .int .i64 0]).rowFar (g := y7.heap.size) (by simp) (wA.C A11 d11).toArray
      have hsz : (y7.alloc (.cells ([.int .i64 0, .int .i64 0, .slice none 0 0, .int .i64 0, .int .i64 0, .int .i64 0, .int .i64 0, .int .i64 0] : List Value).toArray 51)).heap.size = y7.heap.size + 1 := by simp
      rw [hsz] at q7
      go_upto_region 15 with (first | (refine wpList_store_row rfl 51 _ _ rfl _ (wA.C A11 d11).toArray rfl rfl _ _ q6 (by kernel_rfl) (by kernel_rfl) (by kernel_rfl) ?_) | (refine wpList_store_row rfl 56 _ _ rfl _ ([.int .i64 2, .int .i64 0]).toArray rfl rfl _ _ q7 (by kernel_rfl) (by kernel_rfl) (by kernel_rfl) ?_))
      have k11 := (q6.row (wA.C A11 d11)).rowFar (g := y7.heap.size + 1) (by omega) ([.int .i64 2, .int .i64 0] : List Value).toArray
      have k12 := q7.row [.int .i64 2, .int .i64 0]
      have a1 : Below y7.heap.size y7 ((y7.alloc (.cells ([.int .i64 0, .int .i64 0, .slice none 0 0, .int .i64 0, .int .i64 0, .int .i64 0, .int .i64 0, .int .i64 0] : List Value).toArray 51)).alloc (.cells ([.int .i64 0, .int .i64 0] : List Value).toArray 56)) := by (repeat (first | with_reducible exact Below.refl _ _ | with_reducible assumption | with_reducible refine Below.drew ?_ | with_reducible refine Below.drewN ?_ _ | with_reducible refine Below.alloc1 ?_ _ | with_reducible refine Below.setCell1 ?_ (by first | omega | (simp; done) | (simp; omega)) _ | with_reducible refine Below.step ?_ (by with_reducible assumption)))
      have hy := setRow_below (setRow_below a1 (Nat.le_refl _) (wA.C A11 d11).toArray) (g := y7.heap.size + 1) (by omega) ([.int .i64 2, .int .i64 0] : List Value).toArray
      generalize hV : World.setRow (World.setRow _ _ _) _ _ = y8 at k11 k12 hy ⊢
      replace k0 := k0.step hy
      replace k2 := k2.step hy
      replace k4 := k4.step hy
      replace k8 := k8.step hy
      replace k9 := k9.step hy
      replace k10 := k10.step hy
      replace rA' := rA'.step hy
      replace r9 := r9.step hy
      replace hb := hb.step hy
      clear hV hy q6 q7 hsz a1
      clear k11
      have hN := fun W => admit_New_any ⟨0, 0, 0, 0, fun _ => 0, fun _ => 0, 0, fun _ => 0, fun _ => 0⟩ W
      rw [wN0] at hN
      go_wp2_with fail
      refine (hN _).mono ?_; rintro e y9 ⟨rfl, hx⟩
      replace k0 := k0.step hx; replace k2 := k2.step hx; replace k4 := k4.step hx; replace k8 := k8.step hx; replace k9 := k9.step hx; replace k10 := k10.step hx; replace k12 := k12.step hx; replace rA' := rA'.step hx; replace r9 := r9.step hx
      replace hb := hb.step hx
      clear hx hN
      have kz := Bk.new y9 51 [.int .i64 0, .int .i64 0, .slice none 0 0, .int .i64 0, .int .i64 0, .int .i64 0, .int .i64 0, .int .i64 0]
      go_upto_region 16 with (first | (refine wpList_store_row rfl 51 _ _ rfl _ (azC 0 0 none 0 0 0 0 0 0 0).toArray rfl rfl _ _ kz (by kernel_rfl) (by kernel_rfl) (by kernel_rfl) ?_))
      have hy := setRow_below (Below.alloc1 (Below.refl y9.heap.size y9) (.cells ([.int .i64 0, .int .i64 0, .slice none 0 0, .int .i64 0, .int .i64 0, .int .i64 0, .int .i64 0, .int .i64 0] : List Value).toArray 51)) (Nat.le_refl _) (azC 0 0 none 0 0 0 0 0 0 0).toArray
      generalize hV : World.setRow _ _ _ = z1 at hy ⊢
      replace k0 := k0.step hy; replace k2 := k2.step hy; replace k4 := k4.step hy; replace k8 := k8.step hy; replace k9 := k9.step hy; replace k10 := k10.step hy; replace k12 := k12.step hy; replace rA' := rA'.step hy; replace r9 := r9.step hy
      replace hb := hb.step hy
      clear hV hy kz
      have hW1 := fun W h => (admit_Would_any aUsual wT A' d' 2 0 W hes2 h).lit (congrArg (Value.int .i64) wW1)
      have hW2 := fun W h => (admit_Would_any aUsual wT A' d' 1 1 W hes2 h).lit (congrArg (Value.int .i64) wW2)
      have hCk := fun W => (admit_Check_any aUsual W).lit (congrArg (Value.int .i64) wC)
      have hF1 := fun W h => (admit_Fine_any aUsual wB A9 d9 W hesB h).lit (congrArg (Value.int .i64) wF)
      have hF2 : ∀ W : World, Calls Try.prog 20 #[acV 8 2 3 1 (u3 50 75 90) (u3 40 60 80) 5 uLo uHi, .agg #[.int .i64 0, .int .i64 0, .slice none 0 0, .int .i64 0, .int .i64 0, .int .i64 0, .int .i64 (-1), .int .i64 0]] W fun e w' => e = .returned (.int .i64 8) ∧ Below W.heap.size W w' := fun W => (admit_Fine_any aUsual ⟨0, 0, [], 0, 0, 0, -1, 0⟩ none 0 W (by simp) Rd.nil).lit (congrArg (Value.int .i64) wF0)
      have hS1 := fun W h1 h2 => (admit_Same_any wA wB A' A9 d' d9 W hesA h1 h2).lit (congrArg Value.bool wE1)
      have hS2 := fun W h1 h2 => (admit_Same_any wB wB A9 A9 d9 d9 W hesB h1 h2).lit (congrArg Value.bool wE2)
      have hE1 := fun W => ver_eql 14 3 14 3 W
      have hE2 := fun W => ver_eql 15 65 15 65 W
      have hE3 := fun W => ver_eql 2 0 2 0 W
      as_aux_lemma =>
        have k2_0 := k2.cell 0; have k2_f0 := k2.frozen 0; have k2_1 := k2.cell 1; have k2_f1 := k2.frozen 1; have k2_2 := k2.cell 2; have k2_f2 := k2.frozen 2; have k2_3 := k2.cell 3; have k2_f3 := k2.frozen 3; have k2_4 := k2.cell 4; have k2_f4 := k2.frozen 4; have k2_5 := k2.cell 5; have k2_f5 := k2.frozen 5; have k2_6 := k2.cell 6; have k2_f6 := k2.frozen 6; have k2_7 := k2.cell 7; have k2_f7 := k2.frozen 7; simp only [List.set_cons_zero, List.set_cons_succ, List.getElem?_cons_zero, List.getElem?_cons_succ] at k2_0 k2_1 k2_2 k2_3 k2_4 k2_5 k2_6 k2_7; have lt_k2 := k2.lt; have k8_0 := k8.cell 0; have k8_f0 := k8.frozen 0; have k8_1 := k8.cell 1; have k8_f1 := k8.frozen 1; have k8_2 := k8.cell 2; have k8_f2 := k8.frozen 2; have k8_3 := k8.cell 3; have k8_f3 := k8.frozen 3; have k8_4 := k8.cell 4; have k8_f4 := k8.frozen 4; have k8_5 := k8.cell 5; have k8_f5 := k8.frozen 5; have k8_6 := k8.cell 6; have k8_f6 := k8.frozen 6; have k8_7 := k8.cell 7; have k8_f7 := k8.frozen 7; simp only [List.set_cons_zero, List.set_cons_succ, List.getElem?_cons_zero, List.getElem?_cons_succ] at k8_0 k8_1 k8_2 k8_3 k8_4 k8_5 k8_6 k8_7; have lt_k8 := k8.lt; have k9_0 := k9.cell 0; have k9_f0 := k9.frozen 0; have k9_1 := k9.cell 1; have k9_f1 := k9.frozen 1; have k9_2 := k9.cell 2; have k9_f2 := k9.frozen 2; have k9_3 := k9.cell 3; have k9_f3 := k9.frozen 3; have k9_4 := k9.cell 4; have k9_f4 := k9.frozen 4; have k9_5 := k9.cell 5; have k9_f5 := k9.frozen 5; have k9_6 := k9.cell 6; have k9_f6 := k9.frozen 6; have k9_7 := k9.cell 7; have k9_f7 := k9.frozen 7; simp only [List.set_cons_zero, List.set_cons_succ, List.getElem?_cons_zero, List.getElem?_cons_succ] at k9_0 k9_1 k9_2 k9_3 k9_4 k9_5 k9_6 k9_7; have lt_k9 := k9.lt; have k4_0 := k4.cell 0; have k4_f0 := k4.frozen 0; have k4_1 := k4.cell 1; have k4_f1 := k4.frozen 1; simp only [List.set_cons_zero, List.set_cons_succ, List.getElem?_cons_zero, List.getElem?_cons_succ] at k4_0 k4_1; have lt_k4 := k4.lt; have k10_0 := k10.cell 0; have k10_f0 := k10.frozen 0; have k10_1 := k10.cell 1; have k10_f1 := k10.frozen 1; simp only [List.set_cons_zero, List.set_cons_succ, List.getElem?_cons_zero, List.getElem?_cons_succ] at k10_0 k10_1; have lt_k10 := k10.lt; have k12_0 := k12.cell 0; have k12_f0 := k12.frozen 0; have k12_1 := k12.cell 1; have k12_f1 := k12.frozen 1; simp only [List.set_cons_zero, List.set_cons_succ, List.getElem?_cons_zero, List.getElem?_cons_succ] at k12_0 k12_1; have lt_k12 := k12.lt
        dsimp only [List.append]
        go_wp2_with (first | (refine wpList_loadG 44 _ rfl _ rfl _ _ (0, 0) _ k0 Try.underlying44 rfl (by kernel_rfl) (by kernel_rfl) ?_) | (refine wpList_buildG 51 _ rfl (azC 0 0 none 0 0 0 0 0 (-1) 0).toArray (by kernel_rfl) (by kernel_rfl) ?_))
        refine (hW1 _ rA').mono ?_; rintro e v0 ⟨rfl, hx⟩
        replace k2 := k2.step hx; (try clear k2_0 k2_f0 k2_1 k2_f1 k2_2 k2_f2 k2_3 k2_f3 k2_4 k2_f4 k2_5 k2_f5 k2_6 k2_f6 k2_7 k2_f7); have k2_0 := k2.cell 0; have k2_f0 := k2.frozen 0; have k2_1 := k2.cell 1; have k2_f1 := k2.frozen 1; have k2_2 := k2.cell 2; have k2_f2 := k2.frozen 2; have k2_3 := k2.cell 3; have k2_f3 := k2.frozen 3; have k2_4 := k2.cell 4; have k2_f4 := k2.frozen 4; have k2_5 := k2.cell 5; have k2_f5 := k2.frozen 5; have k2_6 := k2.cell 6; have k2_f6 := k2.frozen 6; have k2_7 := k2.cell 7; have k2_f7 := k2.frozen 7; simp only [List.set_cons_zero, List.set_cons_succ, List.getElem?_cons_zero, List.getElem?_cons_succ] at k2_0 k2_1 k2_2 k2_3 k2_4 k2_5 k2_6 k2_7; (try clear lt_k2); have lt_k2 := k2.lt; replace k8 := k8.step hx; (try clear k8_0 k8_f0 k8_1 k8_f1 k8_2 k8_f2 k8_3 k8_f3 k8_4 k8_f4 k8_5 k8_f5 k8_6 k8_f6 k8_7 k8_f7); have k8_0 := k8.cell 0; have k8_f0 := k8.frozen 0; have k8_1 := k8.cell 1; have k8_f1 := k8.frozen 1; have k8_2 := k8.cell 2; have k8_f2 := k8.frozen 2; have k8_3 := k8.cell 3; have k8_f3 := k8.frozen 3; have k8_4 := k8.cell 4; have k8_f4 := k8.frozen 4; have k8_5 := k8.cell 5; have k8_f5 := k8.frozen 5; have k8_6 := k8.cell 6; have k8_f6 := k8.frozen 6; have k8_7 := k8.cell 7; have k8_f7 := k8.frozen 7; simp only [List.set_cons_zero, List.set_cons_succ, List.getElem?_cons_zero, List.getElem?_cons_succ] at k8_0 k8_1 k8_2 k8_3 k8_4 k8_5 k8_6 k8_7; (try clear lt_k8); have lt_k8 := k8.lt; replace k9 := k9.step hx; (try clear k9_0 k9_f0 k9_1 k9_f1 k9_2 k9_f2 k9_3 k9_f3 k9_4 k9_f4 k9_5 k9_f5 k9_6 k9_f6 k9_7 k9_f7); have k9_0 := k9.cell 0; have k9_f0 := k9.frozen 0; have k9_1 := k9.cell 1; have k9_f1 := k9.frozen 1; have k9_2 := k9.cell 2; have k9_f2 := k9.frozen 2; have k9_3 := k9.cell 3; have k9_f3 := k9.frozen 3; have k9_4 := k9.cell 4; have k9_f4 := k9.frozen 4; have k9_5 := k9.cell 5; have k9_f5 := k9.frozen 5; have k9_6 := k9.cell 6; have k9_f6 := k9.frozen 6; have k9_7 := k9.cell 7; have k9_f7 := k9.frozen 7; simp only [List.set_cons_zero, List.set_cons_succ, List.getElem?_cons_zero, List.getElem?_cons_succ] at k9_0 k9_1 k9_2 k9_3 k9_4 k9_5 k9_6 k9_7; (try clear lt_k9); have lt_k9 := k9.lt; replace k4 := k4.step hx; (try clear k4_0 k4_f0 k4_1 k4_f1); have k4_0 := k4.cell 0; have k4_f0 := k4.frozen 0; have k4_1 := k4.cell 1; have k4_f1 := k4.frozen 1; simp only [List.set_cons_zero, List.set_cons_succ, List.getElem?_cons_zero, List.getElem?_cons_succ] at k4_0 k4_1; (try clear lt_k4); have lt_k4 := k4.lt; replace k10 := k10.step hx; (try clear k10_0 k10_f0 k10_1 k10_f1); have k10_0 := k10.cell 0; have k10_f0 := k10.frozen 0; have k10_1 := k10.cell 1; have k10_f1 := k10.frozen 1; simp only [List.set_cons_zero, List.set_cons_succ, List.getElem?_cons_zero, List.getElem?_cons_succ] at k10_0 k10_1; (try clear lt_k10); have lt_k10 := k10.lt; replace k12 := k12.step hx; (try clear k12_0 k12_f0 k12_1 k12_f1); have k12_0 := k12.cell 0; have k12_f0 := k12.frozen 0; have k12_1 := k12.cell 1; have k12_f1 := k12.frozen 1; simp only [List.set_cons_zero, List.set_cons_succ, List.getElem?_cons_zero, List.getElem?_cons_succ] at k12_0 k12_1; (try clear lt_k12); have lt_k12 := k12.lt
        replace k0 := k0.step hx
        replace rA' := rA'.step hx
        replace r9 := r9.step hx
        replace hb := hb.step hx
        clear hx
        as_aux_lemma =>
          go_wp2_with (first | (refine wpList_loadG 44 _ rfl _ rfl _ _ (0, 0) _ k0 Try.underlying44 rfl (by kernel_rfl) (by kernel_rfl) ?_) | (refine wpList_buildG 51 _ rfl (azC 0 0 none 0 0 0 0 0 (-1) 0).toArray (by kernel_rfl) (by kernel_rfl) ?_))
          refine (hW2 _ rA').mono ?_; rintro e v1 ⟨rfl, hx⟩
          replace k2 := k2.step hx; (try clear k2_0 k2_f0 k2_1 k2_f1 k2_2 k2_f2 k2_3 k2_f3 k2_4 k2_f4 k2_5 k2_f5 k2_6 k2_f6 k2_7 k2_f7); have k2_0 := k2.cell 0; have k2_f0 := k2.frozen 0; have k2_1 := k2.cell 1; have k2_f1 := k2.frozen 1; have k2_2 := k2.cell 2; have k2_f2 := k2.frozen 2; have k2_3 := k2.cell 3; have k2_f3 := k2.frozen 3; have k2_4 := k2.cell 4; have k2_f4 := k2.frozen 4; have k2_5 := k2.cell 5; have k2_f5 := k2.frozen 5; have k2_6 := k2.cell 6; have k2_f6 := k2.frozen 6; have k2_7 := k2.cell 7; have k2_f7 := k2.frozen 7; simp only [List.set_cons_zero, List.set_cons_succ, List.getElem?_cons_zero, List.getElem?_cons_succ] at k2_0 k2_1 k2_2 k2_3 k2_4 k2_5 k2_6 k2_7; (try clear lt_k2); have lt_k2 := k2.lt; replace k8 := k8.step hx; (try clear k8_0 k8_f0 k8_1 k8_f1 k8_2 k8_f2 k8_3 k8_f3 k8_4 k8_f4 k8_5 k8_f5 k8_6 k8_f6 k8_7 k8_f7); have k8_0 := k8.cell 0; have k8_f0 := k8.frozen 0; have k8_1 := k8.cell 1; have k8_f1 := k8.frozen 1; have k8_2 := k8.cell 2; have k8_f2 := k8.frozen 2; have k8_3 := k8.cell 3; have k8_f3 := k8.frozen 3; have k8_4 := k8.cell 4; have k8_f4 := k8.frozen 4; have k8_5 := k8.cell 5; have k8_f5 := k8.frozen 5; have k8_6 := k8.cell 6; have k8_f6 := k8.frozen 6; have k8_7 := k8.cell 7; have k8_f7 := k8.frozen 7; simp only [List.set_cons_zero, List.set_cons_succ, List.getElem?_cons_zero, List.getElem?_cons_succ] at k8_0 k8_1 k8_2 k8_3 k8_4 k8_5 k8_6 k8_7; (try clear lt_k8); have lt_k8 := k8.lt; replace k9 := k9.step hx; (try clear k9_0 k9_f0 k9_1 k9_f1 k9_2 k9_f2 k9_3 k9_f3 k9_4 k9_f4 k9_5 k9_f5 k9_6 k9_f6 k9_7 k9_f7); have k9_0 := k9.cell 0; have k9_f0 := k9.frozen 0; have k9_1 := k9.cell 1; have k9_f1 := k9.frozen 1; have k9_2 := k9.cell 2; have k9_f2 := k9.frozen 2; have k9_3 := k9.cell 3; have k9_f3 := k9.frozen 3; have k9_4 := k9.cell 4; have k9_f4 := k9.frozen 4; have k9_5 := k9.cell 5; have k9_f5 := k9.frozen 5; have k9_6 := k9.cell 6; have k9_f6 := k9.frozen 6; have k9_7 := k9.cell 7; have k9_f7 := k9.frozen 7; simp only [List.set_cons_zero, List.set_cons_succ, List.getElem?_cons_zero, List.getElem?_cons_succ] at k9_0 k9_1 k9_2 k9_3 k9_4 k9_5 k9_6 k9_7; (try clear lt_k9); have lt_k9 := k9.lt; replace k4 := k4.step hx; (try clear k4_0 k4_f0 k4_1 k4_f1); have k4_0 := k4.cell 0; have k4_f0 := k4.frozen 0; have k4_1 := k4.cell 1; have k4_f1 := k4.frozen 1; simp only [List.set_cons_zero, List.set_cons_succ, List.getElem?_cons_zero, List.getElem?_cons_succ] at k4_0 k4_1; (try clear lt_k4); have lt_k4 := k4.lt; replace k10 := k10.step hx; (try clear k10_0 k10_f0 k10_1 k10_f1); have k10_0 := k10.cell 0; have k10_f0 := k10.frozen 0; have k10_1 := k10.cell 1; have k10_f1 := k10.frozen 1; simp only [List.set_cons_zero, List.set_cons_succ, List.getElem?_cons_zero, List.getElem?_cons_succ] at k10_0 k10_1; (try clear lt_k10); have lt_k10 := k10.lt; replace k12 := k12.step hx; (try clear k12_0 k12_f0 k12_1 k12_f1); have k12_0 := k12.cell 0; have k12_f0 := k12.frozen 0; have k12_1 := k12.cell 1; have k12_f1 := k12.frozen 1; simp only [List.set_cons_zero, List.set_cons_succ, List.getElem?_cons_zero, List.getElem?_cons_succ] at k12_0 k12_1; (try clear lt_k12); have lt_k12 := k12.lt
          replace k0 := k0.step hx
          replace rA' := rA'.step hx
          replace r9 := r9.step hx
          replace hb := hb.step hx
          clear hx
          as_aux_lemma =>
            go_wp2_with (first | (refine wpList_loadG 44 _ rfl _ rfl _ _ (0, 0) _ k0 Try.underlying44 rfl (by kernel_rfl) (by kernel_rfl) ?_) | (refine wpList_buildG 51 _ rfl (azC 0 0 none 0 0 0 0 0 (-1) 0).toArray (by kernel_rfl) (by kernel_rfl) ?_))
            refine (hCk _).mono ?_; rintro e v2 ⟨rfl, hx⟩
            (try clear k2_0 k2_f0 k2_1 k2_f1 k2_2 k2_f2 k2_3 k2_f3 k2_4 k2_f4 k2_5 k2_f5 k2_6 k2_f6 k2_7 k2_f7 lt_k2) ; (try clear k4_0 k4_f0 k4_1 k4_f1 lt_k4) ; (try clear k10_0 k10_f0 k10_1 k10_f1 lt_k10) ; (try clear k12_0 k12_f0 k12_1 k12_f1 lt_k12)
            replace k8 := k8.step hx; (try clear k8_0 k8_f0 k8_1 k8_f1 k8_2 k8_f2 k8_3 k8_f3 k8_4 k8_f4 k8_5 k8_f5 k8_6 k8_f6 k8_7 k8_f7); have k8_0 := k8.cell 0; have k8_f0 := k8.frozen 0; have k8_1 := k8.cell 1; have k8_f1 := k8.frozen 1; have k8_2 := k8.cell 2; have k8_f2 := k8.frozen 2; have k8_3 := k8.cell 3; have k8_f3 := k8.frozen 3; have k8_4 := k8.cell 4; have k8_f4 := k8.frozen 4; have k8_5 := k8.cell 5; have k8_f5 := k8.frozen 5; have k8_6 := k8.cell 6; have k8_f6 := k8.frozen 6; have k8_7 := k8.cell 7; have k8_f7 := k8.frozen 7; simp only [List.set_cons_zero, List.set_cons_succ, List.getElem?_cons_zero, List.getElem?_cons_succ] at k8_0 k8_1 k8_2 k8_3 k8_4 k8_5 k8_6 k8_7; (try clear lt_k8); have lt_k8 := k8.lt; replace k9 := k9.step hx; (try clear k9_0 k9_f0 k9_1 k9_f1 k9_2 k9_f2 k9_3 k9_f3 k9_4 k9_f4 k9_5 k9_f5 k9_6 k9_f6 k9_7 k9_f7); have k9_0 := k9.cell 0; have k9_f0 := k9.frozen 0; have k9_1 := k9.cell 1; have k9_f1 := k9.frozen 1; have k9_2 := k9.cell 2; have k9_f2 := k9.frozen 2; have k9_3 := k9.cell 3; have k9_f3 := k9.frozen 3; have k9_4 := k9.cell 4; have k9_f4 := k9.frozen 4; have k9_5 := k9.cell 5; have k9_f5 := k9.frozen 5; have k9_6 := k9.cell 6; have k9_f6 := k9.frozen 6; have k9_7 := k9.cell 7; have k9_f7 := k9.frozen 7; simp only [List.set_cons_zero, List.set_cons_succ, List.getElem?_cons_zero, List.getElem?_cons_succ] at k9_0 k9_1 k9_2 k9_3 k9_4 k9_5 k9_6 k9_7; (try clear lt_k9); have lt_k9 := k9.lt
            replace k0 := k0.step hx
            replace rA' := rA'.step hx
            replace r9 := r9.step hx
            replace hb := hb.step hx
            clear hx
            as_aux_lemma =>
              go_wp2_with (first | (refine wpList_loadG 44 _ rfl _ rfl _ _ (0, 0) _ k0 Try.underlying44 rfl (by kernel_rfl) (by kernel_rfl) ?_) | (refine wpList_buildG 51 _ rfl (azC 0 0 none 0 0 0 0 0 (-1) 0).toArray (by kernel_rfl) (by kernel_rfl) ?_))
              refine (hF1 _ r9).mono ?_; rintro e v3 ⟨rfl, hx⟩
              replace k8 := k8.step hx; (try clear k8_0 k8_f0 k8_1 k8_f1 k8_2 k8_f2 k8_3 k8_f3 k8_4 k8_f4 k8_5 k8_f5 k8_6 k8_f6 k8_7 k8_f7); have k8_0 := k8.cell 0; have k8_f0 := k8.frozen 0; have k8_1 := k8.cell 1; have k8_f1 := k8.frozen 1; have k8_2 := k8.cell 2; have k8_f2 := k8.frozen 2; have k8_3 := k8.cell 3; have k8_f3 := k8.frozen 3; have k8_4 := k8.cell 4; have k8_f4 := k8.frozen 4; have k8_5 := k8.cell 5; have k8_f5 := k8.frozen 5; have k8_6 := k8.cell 6; have k8_f6 := k8.frozen 6; have k8_7 := k8.cell 7; have k8_f7 := k8.frozen 7; simp only [List.set_cons_zero, List.set_cons_succ, List.getElem?_cons_zero, List.getElem?_cons_succ] at k8_0 k8_1 k8_2 k8_3 k8_4 k8_5 k8_6 k8_7; (try clear lt_k8); have lt_k8 := k8.lt; replace k9 := k9.step hx; (try clear k9_0 k9_f0 k9_1 k9_f1 k9_2 k9_f2 k9_3 k9_f3 k9_4 k9_f4 k9_5 k9_f5 k9_6 k9_f6 k9_7 k9_f7); have k9_0 := k9.cell 0; have k9_f0 := k9.frozen 0; have k9_1 := k9.cell 1; have k9_f1 := k9.frozen 1; have k9_2 := k9.cell 2; have k9_f2 := k9.frozen 2; have k9_3 := k9.cell 3; have k9_f3 := k9.frozen 3; have k9_4 := k9.cell 4; have k9_f4 := k9.frozen 4; have k9_5 := k9.cell 5; have k9_f5 := k9.frozen 5; have k9_6 := k9.cell 6; have k9_f6 := k9.frozen 6; have k9_7 := k9.cell 7; have k9_f7 := k9.frozen 7; simp only [List.set_cons_zero, List.set_cons_succ, List.getElem?_cons_zero, List.getElem?_cons_succ] at k9_0 k9_1 k9_2 k9_3 k9_4 k9_5 k9_6 k9_7; (try clear lt_k9); have lt_k9 := k9.lt
              replace k0 := k0.step hx
              replace rA' := rA'.step hx
              replace r9 := r9.step hx
              replace hb := hb.step hx
              clear hx
              as_aux_lemma =>
                go_wp2_with (first | (refine wpList_loadG 44 _ rfl _ rfl _ _ (0, 0) _ k0 Try.underlying44 rfl (by kernel_rfl) (by kernel_rfl) ?_) | (refine wpList_buildG 51 _ rfl (azC 0 0 none 0 0 0 0 0 (-1) 0).toArray (by kernel_rfl) (by kernel_rfl) ?_))
                refine (hF2 _).mono ?_; rintro e v4 ⟨rfl, hx⟩
                clear k0
                replace k8 := k8.step hx; (try clear k8_0 k8_f0 k8_1 k8_f1 k8_2 k8_f2 k8_3 k8_f3 k8_4 k8_f4 k8_5 k8_f5 k8_6 k8_f6 k8_7 k8_f7); have k8_0 := k8.cell 0; have k8_f0 := k8.frozen 0; have k8_1 := k8.cell 1; have k8_f1 := k8.frozen 1; have k8_2 := k8.cell 2; have k8_f2 := k8.frozen 2; have k8_3 := k8.cell 3; have k8_f3 := k8.frozen 3; have k8_4 := k8.cell 4; have k8_f4 := k8.frozen 4; have k8_5 := k8.cell 5; have k8_f5 := k8.frozen 5; have k8_6 := k8.cell 6; have k8_f6 := k8.frozen 6; have k8_7 := k8.cell 7; have k8_f7 := k8.frozen 7; simp only [List.set_cons_zero, List.set_cons_succ, List.getElem?_cons_zero, List.getElem?_cons_succ] at k8_0 k8_1 k8_2 k8_3 k8_4 k8_5 k8_6 k8_7; (try clear lt_k8); have lt_k8 := k8.lt; replace k9 := k9.step hx; (try clear k9_0 k9_f0 k9_1 k9_f1 k9_2 k9_f2 k9_3 k9_f3 k9_4 k9_f4 k9_5 k9_f5 k9_6 k9_f6 k9_7 k9_f7); have k9_0 := k9.cell 0; have k9_f0 := k9.frozen 0; have k9_1 := k9.cell 1; have k9_f1 := k9.frozen 1; have k9_2 := k9.cell 2; have k9_f2 := k9.frozen 2; have k9_3 := k9.cell 3; have k9_f3 := k9.frozen 3; have k9_4 := k9.cell 4; have k9_f4 := k9.frozen 4; have k9_5 := k9.cell 5; have k9_f5 := k9.frozen 5; have k9_6 := k9.cell 6; have k9_f6 := k9.frozen 6; have k9_7 := k9.cell 7; have k9_f7 := k9.frozen 7; simp only [List.set_cons_zero, List.set_cons_succ, List.getElem?_cons_zero, List.getElem?_cons_succ] at k9_0 k9_1 k9_2 k9_3 k9_4 k9_5 k9_6 k9_7; (try clear lt_k9); have lt_k9 := k9.lt
                replace rA' := rA'.step hx
                replace r9 := r9.step hx
                replace hb := hb.step hx
                clear hx
                as_aux_lemma =>
                  go_wp2_with fail
                  refine (hS1 _ rA' r9).mono ?_; rintro e v5 ⟨rfl, hx⟩
                  (try clear k8_0 k8_f0 k8_1 k8_f1 k8_2 k8_f2 k8_3 k8_f3 k8_4 k8_f4 k8_5 k8_f5 k8_6 k8_f6 k8_7 k8_f7 lt_k8)
                  replace k9 := k9.step hx; (try clear k9_0 k9_f0 k9_1 k9_f1 k9_2 k9_f2 k9_3 k9_f3 k9_4 k9_f4 k9_5 k9_f5 k9_6 k9_f6 k9_7 k9_f7); have k9_0 := k9.cell 0; have k9_f0 := k9.frozen 0; have k9_1 := k9.cell 1; have k9_f1 := k9.frozen 1; have k9_2 := k9.cell 2; have k9_f2 := k9.frozen 2; have k9_3 := k9.cell 3; have k9_f3 := k9.frozen 3; have k9_4 := k9.cell 4; have k9_f4 := k9.frozen 4; have k9_5 := k9.cell 5; have k9_f5 := k9.frozen 5; have k9_6 := k9.cell 6; have k9_f6 := k9.frozen 6; have k9_7 := k9.cell 7; have k9_f7 := k9.frozen 7; simp only [List.set_cons_zero, List.set_cons_succ, List.getElem?_cons_zero, List.getElem?_cons_succ] at k9_0 k9_1 k9_2 k9_3 k9_4 k9_5 k9_6 k9_7; (try clear lt_k9); have lt_k9 := k9.lt
                  replace rA' := rA'.step hx
                  replace r9 := r9.step hx
                  replace hb := hb.step hx
                  clear hx
                  as_aux_lemma =>
                    go_wp2_with fail
                    refine (hS2 _ r9 r9).mono ?_; rintro e v6 ⟨rfl, hx⟩
                    (try clear k9_0 k9_f0 k9_1 k9_f1 k9_2 k9_f2 k9_3 k9_f3 k9_4 k9_f4 k9_5 k9_f5 k9_6 k9_f6 k9_7 k9_f7 lt_k9)
                    replace rA' := rA'.step hx
                    replace r9 := r9.step hx
                    replace hb := hb.step hx
                    clear hx
                    as_aux_lemma =>
                      go_wp2_with fail
                      refine (r17_Usual_any _).mono ?_; rintro e v7 ⟨rfl, hx⟩
                      replace rA' := rA'.step hx
                      replace r9 := r9.step hx
                      replace hb := hb.step hx
                      clear hx
                      have hfi : ∀ W, (Instr.field 29 (confV uLo uHi) 0).run Try.prog W = .ok (.agg #[.int .i64 (uLo 0), .int .i64 (uLo 1), .int .i64 (uLo 2), .int .i64 (uLo 3)]) W := fun W => by kernel_rfl
                      have hix : ∀ W, (Instr.index 27 (.agg #[.int .i64 (uLo 0), .int .i64 (uLo 1), .int .i64 (uLo 2), .int .i64 (uLo 3)]) (.int .i64 3)).run Try.prog W = .ok (.int .i64 60) W := fun W => by kernel_rfl
                      go_wp2
                      go_ret
                      exact ⟨rfl, hb⟩
end Go.Proofs.Ytolpiaehleefbaa
