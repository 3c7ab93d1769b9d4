/- callboylaw03.awake answers true. -/
import Derived.Test.YtnmpighdkdffbaaPool6
namespace Go.Proofs.Ytnmpighdkdffbaa
open Go.RowKit Go.Sort
set_option linter.unusedSimpArgs false
set_option linter.unusedVariables false

theorem aw0 (w : World) : Calls Try.prog 20 #[.int .i64 2] w fun e w' => ∃ A c B d, e = .returned (.tuple #[.agg #[.slice A 2 c, .slice B 2 d], .int .i64 0]) ∧ StFr w.heap.size w' (.agg #[.slice A 2 c, .slice B 2 d]) [⟨0, false, 0⟩, ⟨0, false, 0⟩] [1, 0] ∧ Below w.heap.size w w' :=
  (pool_New_yes 2 w (by omega) (by omega)).mono fun e w' ⟨V', he, hs, hb⟩ => by
    obtain ⟨A, c, B, d, rfl, r⟩ := hs
    exact ⟨A, c, B, d, he, ⟨A, c, B, d, rfl, r⟩, hb⟩
theorem aw1 (V : Value) (w : World) (h : StAt w V [⟨0, false, 0⟩, ⟨0, false, 0⟩] [1, 0]) : Calls Try.prog 10 #[V, .int .i64 5] w fun e w' => ∃ A c B d, e = .returned (.tuple #[.agg #[.slice A 2 c, .slice B 1 d], .int .i64 0, .int .i64 0]) ∧ StFr w.heap.size w' (.agg #[.slice A 2 c, .slice B 1 d]) [⟨0, true, 5⟩, ⟨0, false, 0⟩] [1] ∧ Below w.heap.size w w' :=
  (pool_Take_any V [⟨0, false, 0⟩, ⟨0, false, 0⟩] [1, 0] 5 w (by decide) (by decide) h).mono fun e w' ⟨V', he, hs, hb⟩ => by
    have e1 : pTake [⟨0, false, 0⟩, ⟨0, false, 0⟩] [1, 0] 5 = (([⟨0, true, 5⟩, ⟨0, false, 0⟩], [1]), 0, 0) := by decide +kernel
    rw [e1] at he hs
    obtain ⟨A, c, B, d, rfl, r⟩ := hs
    exact ⟨A, c, B, d, he, ⟨A, c, B, d, rfl, r⟩, hb⟩
theorem aw2 (V : Value) (w : World) (h : StAt w V [⟨0, true, 5⟩, ⟨0, false, 0⟩] [1]) : Calls Try.prog 12 #[V, .int .i64 0] w fun e w' => ∃ A c B d, e = .returned (.tuple #[.agg #[.slice A 2 c, .slice B 2 d], .int .i64 0]) ∧ StFr w.heap.size w' (.agg #[.slice A 2 c, .slice B 2 d]) [⟨1, false, 0⟩, ⟨0, false, 0⟩] [1, 0] ∧ Below w.heap.size w w' :=
  (pool_Give_any V [⟨0, true, 5⟩, ⟨0, false, 0⟩] [1] 0 w (by decide) (by decide) (by decide) h).mono fun e w' ⟨V', he, hs, hb⟩ => by
    have e1 : pChange giveD [⟨0, true, 5⟩, ⟨0, false, 0⟩] [1] 0 = (([⟨1, false, 0⟩, ⟨0, false, 0⟩], [1, 0]), 0) := by decide +kernel
    rw [e1] at he hs
    obtain ⟨A, c, B, d, rfl, r⟩ := hs
    exact ⟨A, c, B, d, he, ⟨A, c, B, d, rfl, r⟩, hb⟩
theorem aw3 (V : Value) (w : World) (h : StAt w V [⟨1, false, 0⟩, ⟨0, false, 0⟩] [1, 0]) : Calls Try.prog 10 #[V, .int .i64 7] w fun e w' => ∃ A c B d, e = .returned (.tuple #[.agg #[.slice A 2 c, .slice B 1 d], .int .i64 64, .int .i64 0]) ∧ StFr w.heap.size w' (.agg #[.slice A 2 c, .slice B 1 d]) [⟨1, true, 7⟩, ⟨0, false, 0⟩] [1] ∧ Below w.heap.size w w' :=
  (pool_Take_any V [⟨1, false, 0⟩, ⟨0, false, 0⟩] [1, 0] 7 w (by decide) (by decide) h).mono fun e w' ⟨V', he, hs, hb⟩ => by
    have e1 : pTake [⟨1, false, 0⟩, ⟨0, false, 0⟩] [1, 0] 7 = (([⟨1, true, 7⟩, ⟨0, false, 0⟩], [1]), 64, 0) := by decide +kernel
    rw [e1] at he hs
    obtain ⟨A, c, B, d, rfl, r⟩ := hs
    exact ⟨A, c, B, d, he, ⟨A, c, B, d, rfl, r⟩, hb⟩
theorem aw4 (V : Value) (w : World) (h : StAt w V [⟨1, true, 7⟩, ⟨0, false, 0⟩] [1]) : Calls Try.prog 12 #[V, .int .i64 0] w fun e w' => ∃ A c B d, e = .returned (.tuple #[.agg #[.slice A 2 c, .slice B 1 d], .int .i64 6]) ∧ StFr w.heap.size w' (.agg #[.slice A 2 c, .slice B 1 d]) [⟨1, true, 7⟩, ⟨0, false, 0⟩] [1] ∧ Below w.heap.size w w' :=
  (pool_Give_any V [⟨1, true, 7⟩, ⟨0, false, 0⟩] [1] 0 w (by decide) (by decide) (by decide) h).mono fun e w' ⟨V', he, hs, hb⟩ => by
    have e1 : pChange giveD [⟨1, true, 7⟩, ⟨0, false, 0⟩] [1] 0 = (([⟨1, true, 7⟩, ⟨0, false, 0⟩], [1]), 6) := by decide +kernel
    rw [e1] at he hs
    obtain ⟨A, c, B, d, rfl, r⟩ := hs
    exact ⟨A, c, B, d, he, ⟨A, c, B, d, rfl, r⟩, hb⟩
theorem aw5 (V : Value) (w : World) (h : StAt w V [⟨1, true, 7⟩, ⟨0, false, 0⟩] [1]) : Calls Try.prog 18 #[V, .int .i64 64] w fun e w' => e = .returned (.tuple #[.int .i64 7, .bool true]) ∧ Below w.heap.size w w' :=
  (pool_Get_any V [⟨1, true, 7⟩, ⟨0, false, 0⟩] [1] 64 w (by decide) (by decide) (by decide) h).lit (by kernel_rfl)
theorem aw6 (V : Value) (w : World) (h : StAt w V [⟨1, true, 7⟩, ⟨0, false, 0⟩] [1]) : Calls Try.prog 18 #[V, .int .i64 0] w fun e w' => e = .returned (.tuple #[.int .i64 0, .bool false]) ∧ Below w.heap.size w w' :=
  (pool_Get_any V [⟨1, true, 7⟩, ⟨0, false, 0⟩] [1] 0 w (by decide) (by decide) (by decide) h).lit (by kernel_rfl)
theorem aw7 (V : Value) (w : World) (h : StAt w V [⟨1, true, 7⟩, ⟨0, false, 0⟩] [1]) : Calls Try.prog 14 #[V, .int .i64 64, .int .i64 9] w fun e w' => ∃ A c B d, e = .returned (.tuple #[.agg #[.slice A 2 c, .slice B 1 d], .int .i64 0]) ∧ StFr w.heap.size w' (.agg #[.slice A 2 c, .slice B 1 d]) [⟨1, true, 9⟩, ⟨0, false, 0⟩] [1] ∧ Below w.heap.size w w' :=
  (pool_Set_any V [⟨1, true, 7⟩, ⟨0, false, 0⟩] [1] 64 9 w (by decide) (by decide) (by decide) h).mono fun e w' ⟨V', he, hs, hb⟩ => by
    have e1 : pChange (setD 9) [⟨1, true, 7⟩, ⟨0, false, 0⟩] [1] 64 = (([⟨1, true, 9⟩, ⟨0, false, 0⟩], [1]), 0) := by decide +kernel
    rw [e1] at he hs
    obtain ⟨A, c, B, d, rfl, r⟩ := hs
    exact ⟨A, c, B, d, he, ⟨A, c, B, d, rfl, r⟩, hb⟩
theorem aw8 (V : Value) (w : World) (h : StAt w V [⟨1, true, 9⟩, ⟨0, false, 0⟩] [1]) : Calls Try.prog 10 #[V, .int .i64 1] w fun e w' => ∃ A c B d, e = .returned (.tuple #[.agg #[.slice A 2 c, .slice B 0 d], .int .i64 1, .int .i64 0]) ∧ StFr w.heap.size w' (.agg #[.slice A 2 c, .slice B 0 d]) [⟨1, true, 9⟩, ⟨0, true, 1⟩] [] ∧ Below w.heap.size w w' :=
  (pool_Take_any V [⟨1, true, 9⟩, ⟨0, false, 0⟩] [1] 1 w (by decide) (by decide) h).mono fun e w' ⟨V', he, hs, hb⟩ => by
    have e1 : pTake [⟨1, true, 9⟩, ⟨0, false, 0⟩] [1] 1 = (([⟨1, true, 9⟩, ⟨0, true, 1⟩], []), 1, 0) := by decide +kernel
    rw [e1] at he hs
    obtain ⟨A, c, B, d, rfl, r⟩ := hs
    exact ⟨A, c, B, d, he, ⟨A, c, B, d, rfl, r⟩, hb⟩
theorem aw9 (V : Value) (w : World) (h : StAt w V [⟨1, true, 9⟩, ⟨0, true, 1⟩] []) : Calls Try.prog 10 #[V, .int .i64 1] w fun e w' => ∃ A c B d, e = .returned (.tuple #[.agg #[.slice A 2 c, .slice B 0 d], .int .i64 0, .int .i64 7]) ∧ StFr w.heap.size w' (.agg #[.slice A 2 c, .slice B 0 d]) [⟨1, true, 9⟩, ⟨0, true, 1⟩] [] ∧ Below w.heap.size w w' :=
  (pool_Take_any V [⟨1, true, 9⟩, ⟨0, true, 1⟩] [] 1 w (by decide) (by decide) h).mono fun e w' ⟨V', he, hs, hb⟩ => by
    have e1 : pTake [⟨1, true, 9⟩, ⟨0, true, 1⟩] [] 1 = (([⟨1, true, 9⟩, ⟨0, true, 1⟩], []), 0, 7) := by decide +kernel
    rw [e1] at he hs
    obtain ⟨A, c, B, d, rfl, r⟩ := hs
    exact ⟨A, c, B, d, he, ⟨A, c, B, d, rfl, r⟩, hb⟩
theorem awHandles (V : Value) (w : World) (h : StAt w V [⟨1, true, 9⟩, ⟨0, true, 1⟩] []) : Calls Try.prog 27 #[V] w fun e w' => ∃ B d, e = .returned (.slice B 2 d) ∧ Rd w' w'.heap.size B (ints [64, 1]) ∧ Below w.heap.size w w' :=
  (pool_Handles_any V [⟨1, true, 9⟩, ⟨0, true, 1⟩] [] w (by decide) (by decide) h).mono fun e w' ⟨B, d, he, ho, hb⟩ => by
    have e1 : pHandles [⟨1, true, 9⟩, ⟨0, true, 1⟩] [] = [64, 1] := by decide +kernel
    rw [e1] at he ho
    exact ⟨B, d, he, own_rd ho, hb⟩
theorem awUsed (V : Value) (w : World) (h : StAt w V [⟨1, true, 9⟩, ⟨0, true, 1⟩] []) : Calls Try.prog 24 #[V] w fun e w' => e = .returned (.int .i64 2) ∧ Below w.heap.size w w' := (pool_Used_any V [⟨1, true, 9⟩, ⟨0, true, 1⟩] [] w (by decide) (by decide) h).lit (by kernel_rfl)
theorem st_parts {w : World} {V : Value} {l : List Cl} {f : List Int} (h : StAt w V l f) : ∃ A c B d, V = stV A l.length c B f.length d ∧ f.length ≤ d ∧ Rd w w.heap.size A (cls l) ∧ Rd w w.heap.size B (ints f) := h
theorem awCheck (V : Value) (w : World) (h : StAt w V [⟨1, true, 9⟩, ⟨0, true, 1⟩] []) : Calls Try.prog 22 #[V] w fun e w' => e = .returned (.int .i64 0) ∧ Below w.heap.size w w' := by
  obtain ⟨A, c, B, d, rfl, hd, ha, hb⟩ := h
  exact (pool_Check_any A B c d [⟨1, true, 9⟩, ⟨0, true, 1⟩] [] w (by decide) (by decide) hd ha hb).lit (by kernel_rfl)
theorem awCheck0 (w : World) : Calls Try.prog 22 #[.agg #[.slice none 0 0, .slice none 0 0]] w fun e w' => e = .returned (.int .i64 5) ∧ Below w.heap.size w w' := (pool_Check_any none none 0 0 [] [] w (by decide) (by decide) (by decide) Rd.nil Rd.nil).lit (by kernel_rfl)
theorem awSame1 (V V' : Value) (w : World) (h : StAt w V [⟨1, true, 9⟩, ⟨0, false, 0⟩] [1]) (h' : StAt w V' [⟨1, true, 9⟩, ⟨0, true, 1⟩] []) : Calls Try.prog 29 #[V, V'] w fun e w' => e = .returned (.bool false) ∧ Below w.heap.size w w' := (pool_Same_any V V' _ _ _ _ w (by decide) (by decide) h h').lit (by kernel_rfl)
theorem awSame2 (V : Value) (w : World) (h : StAt w V [⟨1, true, 9⟩, ⟨0, true, 1⟩] []) : Calls Try.prog 29 #[V, V] w fun e w' => e = .returned (.bool true) ∧ Below w.heap.size w w' := (pool_Same_any V V _ _ _ _ w (by decide) (by decide) h h).lit (by kernel_rfl)
theorem awInts (A B : Option Addr) (c d : Nat) (w : World) (ha : Rd w w.heap.size A (ints [64, 1])) (hb : Rd w w.heap.size B (ints [64, 1])) :
    Calls Try.prog 26 #[.slice A 2 c, .slice B 2 d] w fun e w' => e = .returned (.bool true) ∧ ∃ n, w.drewN n = w' := (SameInts_any A B c d [64, 1] [64, 1] w (by decide) ha hb).lit (by kernel_rfl)

set_option maxRecDepth 100000 in
set_option maxHeartbeats 8000000 in
theorem awake03 (w : World) : Calls Try.prog 8 #[] w fun e w' => e = .returned (.bool true) ∧ Below w.heap.size w w' := by
  go_enter Try.func8, Try.ntmps8
  go_wp2_with fail
  have hb0 : Below w.heap.size w w := Below.refl _ _
  with_reducible refine (aw0 _).mono ?_; rintro e x0 ⟨A0, c0, B0, d0, rfl, t0, hx0⟩
  replace hb0 : Below w.heap.size w x0 := by (repeat (first | with_reducible exact Below.refl _ _ | with_reducible assumption | with_reducible refine Below.drew ?_ | with_reducible refine Below.drewN ?_ _ | with_reducible refine Below.alloc1 ?_ _ | with_reducible refine Below.setCell1 ?_ (by first | omega | (simp; done) | (simp; omega)) _ | with_reducible refine Below.step ?_ (by with_reducible assumption)))
  clear hx0
  go_wp2_with fail
  generalize hV : World.alloc x0 _ = w1
  have hy : Below x0.heap.size x0 w1 := by subst hV; (repeat (first | with_reducible exact Below.refl _ _ | with_reducible assumption | with_reducible refine Below.drew ?_ | with_reducible refine Below.drewN ?_ _ | with_reducible refine Below.alloc1 ?_ _ | with_reducible refine Below.setCell1 ?_ (by first | omega | (simp; done) | (simp; omega)) _ | with_reducible refine Below.step ?_ (by with_reducible assumption)))
  have ka : Bk w1 x0.heap.size 30 [.slice A0 2 c0, .slice B0 2 d0] := by subst hV; (repeat (first | with_reducible exact Bk.new' _ _ _ _ (by simp; done) | with_reducible assumption | with_reducible refine Bk.alloc ?_ _ | with_reducible refine Bk.drew ?_ | with_reducible refine Bk.drewN ?_ _ | with_reducible refine Bk.step ?_ (by with_reducible assumption) | with_reducible refine Bk.far ?_ (by first | omega | (simp; done) | (simp; omega)) _))
  have sa := t0.at_.step hy
  clear hV t0
  replace hb0 : Below w.heap.size w w1 := by (repeat (first | with_reducible exact Below.refl _ _ | with_reducible assumption | with_reducible refine Below.drew ?_ | with_reducible refine Below.drewN ?_ _ | with_reducible refine Below.alloc1 ?_ _ | with_reducible refine Below.setCell1 ?_ (by first | omega | (simp; done) | (simp; omega)) _ | with_reducible refine Below.step ?_ (by with_reducible assumption)))
  clear hy
  have ka_0 := ka.cell 0; have ka_f0 := ka.frozen 0; have ka_1 := ka.cell 1; have ka_f1 := ka.frozen 1; simp only [List.set_cons_zero, List.set_cons_succ, List.getElem?_cons_zero, List.getElem?_cons_succ] at ka_0 ka_1; have lt_ka := ka.lt
  go_wp2_with fail
  with_reducible refine (aw1 _ _ sa).mono ?_; rintro e x1 ⟨A1, c1, B1, d1, rfl, t1, hx1⟩
  replace ka := ka.step hx1; (try clear ka_0 ka_f0 ka_1 ka_f1); have ka_0 := ka.cell 0; have ka_f0 := ka.frozen 0; have ka_1 := ka.cell 1; have ka_f1 := ka.frozen 1; simp only [List.set_cons_zero, List.set_cons_succ, List.getElem?_cons_zero, List.getElem?_cons_succ] at ka_0 ka_1; (try clear lt_ka); have lt_ka := ka.lt
  replace sa := sa.step hx1
  replace hb0 : Below w.heap.size w x1 := by (repeat (first | with_reducible exact Below.refl _ _ | with_reducible assumption | with_reducible refine Below.drew ?_ | with_reducible refine Below.drewN ?_ _ | with_reducible refine Below.alloc1 ?_ _ | with_reducible refine Below.setCell1 ?_ (by first | omega | (simp; done) | (simp; omega)) _ | with_reducible refine Below.step ?_ (by with_reducible assumption)))
  clear hx1
  (try clear ka_0 ka_f0 ka_1 ka_f1 lt_ka)
  clear ka sa
  go_wp2_with fail
  generalize hV : World.alloc x1 _ = w2
  have hy : Below x1.heap.size x1 w2 := by subst hV; (repeat (first | with_reducible exact Below.refl _ _ | with_reducible assumption | with_reducible refine Below.drew ?_ | with_reducible refine Below.drewN ?_ _ | with_reducible refine Below.alloc1 ?_ _ | with_reducible refine Below.setCell1 ?_ (by first | omega | (simp; done) | (simp; omega)) _ | with_reducible refine Below.step ?_ (by with_reducible assumption)))
  have kb : Bk w2 x1.heap.size 30 [.slice A1 2 c1, .slice B1 1 d1] := by subst hV; (repeat (first | with_reducible exact Bk.new' _ _ _ _ (by simp; done) | with_reducible assumption | with_reducible refine Bk.alloc ?_ _ | with_reducible refine Bk.drew ?_ | with_reducible refine Bk.drewN ?_ _ | with_reducible refine Bk.step ?_ (by with_reducible assumption) | with_reducible refine Bk.far ?_ (by first | omega | (simp; done) | (simp; omega)) _))
  have sb := t1.at_.step hy
  clear hV t1
  replace hb0 : Below w.heap.size w w2 := by (repeat (first | with_reducible exact Below.refl _ _ | with_reducible assumption | with_reducible refine Below.drew ?_ | with_reducible refine Below.drewN ?_ _ | with_reducible refine Below.alloc1 ?_ _ | with_reducible refine Below.setCell1 ?_ (by first | omega | (simp; done) | (simp; omega)) _ | with_reducible refine Below.step ?_ (by with_reducible assumption)))
  clear hy
  have kb_0 := kb.cell 0; have kb_f0 := kb.frozen 0; have kb_1 := kb.cell 1; have kb_f1 := kb.frozen 1; simp only [List.set_cons_zero, List.set_cons_succ, List.getElem?_cons_zero, List.getElem?_cons_succ] at kb_0 kb_1; have lt_kb := kb.lt
  go_wp2_with fail
  with_reducible refine (aw2 _ _ sb).mono ?_; rintro e x2 ⟨A2, c2, B2, d2, rfl, t2, hx2⟩
  replace kb := kb.step hx2; (try clear kb_0 kb_f0 kb_1 kb_f1); have kb_0 := kb.cell 0; have kb_f0 := kb.frozen 0; have kb_1 := kb.cell 1; have kb_f1 := kb.frozen 1; simp only [List.set_cons_zero, List.set_cons_succ, List.getElem?_cons_zero, List.getElem?_cons_succ] at kb_0 kb_1; (try clear lt_kb); have lt_kb := kb.lt
  replace sb := sb.step hx2
  replace hb0 : Below w.heap.size w x2 := by (repeat (first | with_reducible exact Below.refl _ _ | with_reducible assumption | with_reducible refine Below.drew ?_ | with_reducible refine Below.drewN ?_ _ | with_reducible refine Below.alloc1 ?_ _ | with_reducible refine Below.setCell1 ?_ (by first | omega | (simp; done) | (simp; omega)) _ | with_reducible refine Below.step ?_ (by with_reducible assumption)))
  clear hx2
  (try clear kb_0 kb_f0 kb_1 kb_f1 lt_kb)
  clear kb sb
  go_wp2_with fail
  generalize hV : World.alloc x2 _ = w3
  have hy : Below x2.heap.size x2 w3 := by subst hV; (repeat (first | with_reducible exact Below.refl _ _ | with_reducible assumption | with_reducible refine Below.drew ?_ | with_reducible refine Below.drewN ?_ _ | with_reducible refine Below.alloc1 ?_ _ | with_reducible refine Below.setCell1 ?_ (by first | omega | (simp; done) | (simp; omega)) _ | with_reducible refine Below.step ?_ (by with_reducible assumption)))
  have kc : Bk w3 x2.heap.size 30 [.slice A2 2 c2, .slice B2 2 d2] := by subst hV; (repeat (first | with_reducible exact Bk.new' _ _ _ _ (by simp; done) | with_reducible assumption | with_reducible refine Bk.alloc ?_ _ | with_reducible refine Bk.drew ?_ | with_reducible refine Bk.drewN ?_ _ | with_reducible refine Bk.step ?_ (by with_reducible assumption) | with_reducible refine Bk.far ?_ (by first | omega | (simp; done) | (simp; omega)) _))
  have sc := t2.at_.step hy
  clear hV t2
  replace hb0 : Below w.heap.size w w3 := by (repeat (first | with_reducible exact Below.refl _ _ | with_reducible assumption | with_reducible refine Below.drew ?_ | with_reducible refine Below.drewN ?_ _ | with_reducible refine Below.alloc1 ?_ _ | with_reducible refine Below.setCell1 ?_ (by first | omega | (simp; done) | (simp; omega)) _ | with_reducible refine Below.step ?_ (by with_reducible assumption)))
  clear hy
  have kc_0 := kc.cell 0; have kc_f0 := kc.frozen 0; have kc_1 := kc.cell 1; have kc_f1 := kc.frozen 1; simp only [List.set_cons_zero, List.set_cons_succ, List.getElem?_cons_zero, List.getElem?_cons_succ] at kc_0 kc_1; have lt_kc := kc.lt
  go_wp2_with fail
  with_reducible refine (aw3 _ _ sc).mono ?_; rintro e x3 ⟨A3, c3, B3, d3, rfl, t3, hx3⟩
  replace kc := kc.step hx3; (try clear kc_0 kc_f0 kc_1 kc_f1); have kc_0 := kc.cell 0; have kc_f0 := kc.frozen 0; have kc_1 := kc.cell 1; have kc_f1 := kc.frozen 1; simp only [List.set_cons_zero, List.set_cons_succ, List.getElem?_cons_zero, List.getElem?_cons_succ] at kc_0 kc_1; (try clear lt_kc); have lt_kc := kc.lt
  replace sc := sc.step hx3
  replace hb0 : Below w.heap.size w x3 := by (repeat (first | with_reducible exact Below.refl _ _ | with_reducible assumption | with_reducible refine Below.drew ?_ | with_reducible refine Below.drewN ?_ _ | with_reducible refine Below.alloc1 ?_ _ | with_reducible refine Below.setCell1 ?_ (by first | omega | (simp; done) | (simp; omega)) _ | with_reducible refine Below.step ?_ (by with_reducible assumption)))
  clear hx3
  (try clear kc_0 kc_f0 kc_1 kc_f1 lt_kc)
  clear kc sc
  go_wp2_with fail
  generalize hV : World.alloc x3 _ = w4
  have hy : Below x3.heap.size x3 w4 := by subst hV; (repeat (first | with_reducible exact Below.refl _ _ | with_reducible assumption | with_reducible refine Below.drew ?_ | with_reducible refine Below.drewN ?_ _ | with_reducible refine Below.alloc1 ?_ _ | with_reducible refine Below.setCell1 ?_ (by first | omega | (simp; done) | (simp; omega)) _ | with_reducible refine Below.step ?_ (by with_reducible assumption)))
  have kd : Bk w4 x3.heap.size 30 [.slice A3 2 c3, .slice B3 1 d3] := by subst hV; (repeat (first | with_reducible exact Bk.new' _ _ _ _ (by simp; done) | with_reducible assumption | with_reducible refine Bk.alloc ?_ _ | with_reducible refine Bk.drew ?_ | with_reducible refine Bk.drewN ?_ _ | with_reducible refine Bk.step ?_ (by with_reducible assumption) | with_reducible refine Bk.far ?_ (by first | omega | (simp; done) | (simp; omega)) _))
  have sd := t3.at_.step hy
  clear hV t3
  replace hb0 : Below w.heap.size w w4 := by (repeat (first | with_reducible exact Below.refl _ _ | with_reducible assumption | with_reducible refine Below.drew ?_ | with_reducible refine Below.drewN ?_ _ | with_reducible refine Below.alloc1 ?_ _ | with_reducible refine Below.setCell1 ?_ (by first | omega | (simp; done) | (simp; omega)) _ | with_reducible refine Below.step ?_ (by with_reducible assumption)))
  clear hy
  have kd_0 := kd.cell 0; have kd_f0 := kd.frozen 0; have kd_1 := kd.cell 1; have kd_f1 := kd.frozen 1; simp only [List.set_cons_zero, List.set_cons_succ, List.getElem?_cons_zero, List.getElem?_cons_succ] at kd_0 kd_1; have lt_kd := kd.lt
  go_wp2_with fail
  with_reducible refine (aw4 _ _ sd).mono ?_; rintro e x4 ⟨A4, c4, B4, d4, rfl, t4, hx4⟩
  replace kd := kd.step hx4; (try clear kd_0 kd_f0 kd_1 kd_f1); have kd_0 := kd.cell 0; have kd_f0 := kd.frozen 0; have kd_1 := kd.cell 1; have kd_f1 := kd.frozen 1; simp only [List.set_cons_zero, List.set_cons_succ, List.getElem?_cons_zero, List.getElem?_cons_succ] at kd_0 kd_1; (try clear lt_kd); have lt_kd := kd.lt
  replace sd := sd.step hx4
  replace hb0 : Below w.heap.size w x4 := by (repeat (first | with_reducible exact Below.refl _ _ | with_reducible assumption | with_reducible refine Below.drew ?_ | with_reducible refine Below.drewN ?_ _ | with_reducible refine Below.alloc1 ?_ _ | with_reducible refine Below.setCell1 ?_ (by first | omega | (simp; done) | (simp; omega)) _ | with_reducible refine Below.step ?_ (by with_reducible assumption)))
  clear hx4
  go_wp2_with fail
  generalize hV : World.alloc x4 _ = w5
  have hy : Below x4.heap.size x4 w5 := by subst hV; (repeat (first | with_reducible exact Below.refl _ _ | with_reducible assumption | with_reducible refine Below.drew ?_ | with_reducible refine Below.drewN ?_ _ | with_reducible refine Below.alloc1 ?_ _ | with_reducible refine Below.setCell1 ?_ (by first | omega | (simp; done) | (simp; omega)) _ | with_reducible refine Below.step ?_ (by with_reducible assumption)))
  clear hV t4
  replace kd := kd.step hy; (try clear kd_0 kd_f0 kd_1 kd_f1); have kd_0 := kd.cell 0; have kd_f0 := kd.frozen 0; have kd_1 := kd.cell 1; have kd_f1 := kd.frozen 1; simp only [List.set_cons_zero, List.set_cons_succ, List.getElem?_cons_zero, List.getElem?_cons_succ] at kd_0 kd_1; (try clear lt_kd); have lt_kd := kd.lt
  replace sd := sd.step hy
  replace hb0 : Below w.heap.size w w5 := by (repeat (first | with_reducible exact Below.refl _ _ | with_reducible assumption | with_reducible refine Below.drew ?_ | with_reducible refine Below.drewN ?_ _ | with_reducible refine Below.alloc1 ?_ _ | with_reducible refine Below.setCell1 ?_ (by first | omega | (simp; done) | (simp; omega)) _ | with_reducible refine Below.step ?_ (by with_reducible assumption)))
  clear hy
  go_wp2_with fail
  with_reducible refine (aw5 _ _ sd).mono ?_; rintro e x5 ⟨rfl, hx5⟩
  replace kd := kd.step hx5; (try clear kd_0 kd_f0 kd_1 kd_f1); have kd_0 := kd.cell 0; have kd_f0 := kd.frozen 0; have kd_1 := kd.cell 1; have kd_f1 := kd.frozen 1; simp only [List.set_cons_zero, List.set_cons_succ, List.getElem?_cons_zero, List.getElem?_cons_succ] at kd_0 kd_1; (try clear lt_kd); have lt_kd := kd.lt
  replace sd := sd.step hx5
  replace hb0 : Below w.heap.size w x5 := by (repeat (first | with_reducible exact Below.refl _ _ | with_reducible assumption | with_reducible refine Below.drew ?_ | with_reducible refine Below.drewN ?_ _ | with_reducible refine Below.alloc1 ?_ _ | with_reducible refine Below.setCell1 ?_ (by first | omega | (simp; done) | (simp; omega)) _ | with_reducible refine Below.step ?_ (by with_reducible assumption)))
  clear hx5
  go_wp2_with fail
  with_reducible refine (aw6 _ _ sd).mono ?_; rintro e x6 ⟨rfl, hx6⟩
  replace kd := kd.step hx6; (try clear kd_0 kd_f0 kd_1 kd_f1); have kd_0 := kd.cell 0; have kd_f0 := kd.frozen 0; have kd_1 := kd.cell 1; have kd_f1 := kd.frozen 1; simp only [List.set_cons_zero, List.set_cons_succ, List.getElem?_cons_zero, List.getElem?_cons_succ] at kd_0 kd_1; (try clear lt_kd); have lt_kd := kd.lt
  replace sd := sd.step hx6
  replace hb0 : Below w.heap.size w x6 := by (repeat (first | with_reducible exact Below.refl _ _ | with_reducible assumption | with_reducible refine Below.drew ?_ | with_reducible refine Below.drewN ?_ _ | with_reducible refine Below.alloc1 ?_ _ | with_reducible refine Below.setCell1 ?_ (by first | omega | (simp; done) | (simp; omega)) _ | with_reducible refine Below.step ?_ (by with_reducible assumption)))
  clear hx6
  go_wp2_with fail
  with_reducible refine (aw7 _ _ sd).mono ?_; rintro e x7 ⟨A7, c7, B7, d7, rfl, t7, hx7⟩
  replace kd := kd.step hx7; (try clear kd_0 kd_f0 kd_1 kd_f1); have kd_0 := kd.cell 0; have kd_f0 := kd.frozen 0; have kd_1 := kd.cell 1; have kd_f1 := kd.frozen 1; simp only [List.set_cons_zero, List.set_cons_succ, List.getElem?_cons_zero, List.getElem?_cons_succ] at kd_0 kd_1; (try clear lt_kd); have lt_kd := kd.lt
  replace sd := sd.step hx7
  replace hb0 : Below w.heap.size w x7 := by (repeat (first | with_reducible exact Below.refl _ _ | with_reducible assumption | with_reducible refine Below.drew ?_ | with_reducible refine Below.drewN ?_ _ | with_reducible refine Below.alloc1 ?_ _ | with_reducible refine Below.setCell1 ?_ (by first | omega | (simp; done) | (simp; omega)) _ | with_reducible refine Below.step ?_ (by with_reducible assumption)))
  clear hx7
  (try clear kd_0 kd_f0 kd_1 kd_f1 lt_kd)
  clear kd sd
  go_wp2_with fail
  generalize hV : World.alloc x7 _ = w8
  have hy : Below x7.heap.size x7 w8 := by subst hV; (repeat (first | with_reducible exact Below.refl _ _ | with_reducible assumption | with_reducible refine Below.drew ?_ | with_reducible refine Below.drewN ?_ _ | with_reducible refine Below.alloc1 ?_ _ | with_reducible refine Below.setCell1 ?_ (by first | omega | (simp; done) | (simp; omega)) _ | with_reducible refine Below.step ?_ (by with_reducible assumption)))
  have kw : Bk w8 x7.heap.size 30 [.slice A7 2 c7, .slice B7 1 d7] := by subst hV; (repeat (first | with_reducible exact Bk.new' _ _ _ _ (by simp; done) | with_reducible assumption | with_reducible refine Bk.alloc ?_ _ | with_reducible refine Bk.drew ?_ | with_reducible refine Bk.drewN ?_ _ | with_reducible refine Bk.step ?_ (by with_reducible assumption) | with_reducible refine Bk.far ?_ (by first | omega | (simp; done) | (simp; omega)) _))
  have sw := t7.at_.step hy
  clear hV t7
  replace hb0 : Below w.heap.size w w8 := by (repeat (first | with_reducible exact Below.refl _ _ | with_reducible assumption | with_reducible refine Below.drew ?_ | with_reducible refine Below.drewN ?_ _ | with_reducible refine Below.alloc1 ?_ _ | with_reducible refine Below.setCell1 ?_ (by first | omega | (simp; done) | (simp; omega)) _ | with_reducible refine Below.step ?_ (by with_reducible assumption)))
  clear hy
  have kw_0 := kw.cell 0; have kw_f0 := kw.frozen 0; have kw_1 := kw.cell 1; have kw_f1 := kw.frozen 1; simp only [List.set_cons_zero, List.set_cons_succ, List.getElem?_cons_zero, List.getElem?_cons_succ] at kw_0 kw_1; have lt_kw := kw.lt
  go_wp2_with fail
  with_reducible refine (aw8 _ _ sw).mono ?_; rintro e x8 ⟨A8, c8, B8, d8, rfl, t8, hx8⟩
  replace kw := kw.step hx8; (try clear kw_0 kw_f0 kw_1 kw_f1); have kw_0 := kw.cell 0; have kw_f0 := kw.frozen 0; have kw_1 := kw.cell 1; have kw_f1 := kw.frozen 1; simp only [List.set_cons_zero, List.set_cons_succ, List.getElem?_cons_zero, List.getElem?_cons_succ] at kw_0 kw_1; (try clear lt_kw); have lt_kw := kw.lt
  replace sw := sw.step hx8
  replace hb0 : Below w.heap.size w x8 := by (repeat (first | with_reducible exact Below.refl _ _ | with_reducible assumption | with_reducible refine Below.drew ?_ | with_reducible refine Below.drewN ?_ _ | with_reducible refine Below.alloc1 ?_ _ | with_reducible refine Below.setCell1 ?_ (by first | omega | (simp; done) | (simp; omega)) _ | with_reducible refine Below.step ?_ (by with_reducible assumption)))
  clear hx8
  go_wp2_with fail
  generalize hV : World.alloc x8 _ = w9
  have hy : Below x8.heap.size x8 w9 := by subst hV; (repeat (first | with_reducible exact Below.refl _ _ | with_reducible assumption | with_reducible refine Below.drew ?_ | with_reducible refine Below.drewN ?_ _ | with_reducible refine Below.alloc1 ?_ _ | with_reducible refine Below.setCell1 ?_ (by first | omega | (simp; done) | (simp; omega)) _ | with_reducible refine Below.step ?_ (by with_reducible assumption)))
  have kx : Bk w9 x8.heap.size 30 [.slice A8 2 c8, .slice B8 0 d8] := by subst hV; (repeat (first | with_reducible exact Bk.new' _ _ _ _ (by simp; done) | with_reducible assumption | with_reducible refine Bk.alloc ?_ _ | with_reducible refine Bk.drew ?_ | with_reducible refine Bk.drewN ?_ _ | with_reducible refine Bk.step ?_ (by with_reducible assumption) | with_reducible refine Bk.far ?_ (by first | omega | (simp; done) | (simp; omega)) _))
  have sx := t8.at_.step hy
  clear hV t8
  replace kw := kw.step hy; (try clear kw_0 kw_f0 kw_1 kw_f1); have kw_0 := kw.cell 0; have kw_f0 := kw.frozen 0; have kw_1 := kw.cell 1; have kw_f1 := kw.frozen 1; simp only [List.set_cons_zero, List.set_cons_succ, List.getElem?_cons_zero, List.getElem?_cons_succ] at kw_0 kw_1; (try clear lt_kw); have lt_kw := kw.lt
  replace sw := sw.step hy
  replace hb0 : Below w.heap.size w w9 := by (repeat (first | with_reducible exact Below.refl _ _ | with_reducible assumption | with_reducible refine Below.drew ?_ | with_reducible refine Below.drewN ?_ _ | with_reducible refine Below.alloc1 ?_ _ | with_reducible refine Below.setCell1 ?_ (by first | omega | (simp; done) | (simp; omega)) _ | with_reducible refine Below.step ?_ (by with_reducible assumption)))
  clear hy
  have kx_0 := kx.cell 0; have kx_f0 := kx.frozen 0; have kx_1 := kx.cell 1; have kx_f1 := kx.frozen 1; simp only [List.set_cons_zero, List.set_cons_succ, List.getElem?_cons_zero, List.getElem?_cons_succ] at kx_0 kx_1; have lt_kx := kx.lt
  go_wp2_with fail
  with_reducible refine (aw9 _ _ sx).mono ?_; rintro e x9 ⟨A9, c9, B9, d9, rfl, t9, hx9⟩
  replace kw := kw.step hx9; (try clear kw_0 kw_f0 kw_1 kw_f1); have kw_0 := kw.cell 0; have kw_f0 := kw.frozen 0; have kw_1 := kw.cell 1; have kw_f1 := kw.frozen 1; simp only [List.set_cons_zero, List.set_cons_succ, List.getElem?_cons_zero, List.getElem?_cons_succ] at kw_0 kw_1; (try clear lt_kw); have lt_kw := kw.lt; replace kx := kx.step hx9; (try clear kx_0 kx_f0 kx_1 kx_f1); have kx_0 := kx.cell 0; have kx_f0 := kx.frozen 0; have kx_1 := kx.cell 1; have kx_f1 := kx.frozen 1; simp only [List.set_cons_zero, List.set_cons_succ, List.getElem?_cons_zero, List.getElem?_cons_succ] at kx_0 kx_1; (try clear lt_kx); have lt_kx := kx.lt
  replace sw := sw.step hx9
  replace sx := sx.step hx9
  replace hb0 : Below w.heap.size w x9 := by (repeat (first | with_reducible exact Below.refl _ _ | with_reducible assumption | with_reducible refine Below.drew ?_ | with_reducible refine Below.drewN ?_ _ | with_reducible refine Below.alloc1 ?_ _ | with_reducible refine Below.setCell1 ?_ (by first | omega | (simp; done) | (simp; omega)) _ | with_reducible refine Below.step ?_ (by with_reducible assumption)))
  clear hx9
  go_wp2_with fail
  generalize hV : World.alloc x9 _ = w10
  have hy : Below x9.heap.size x9 w10 := by subst hV; (repeat (first | with_reducible exact Below.refl _ _ | with_reducible assumption | with_reducible refine Below.drew ?_ | with_reducible refine Below.drewN ?_ _ | with_reducible refine Below.alloc1 ?_ _ | with_reducible refine Below.setCell1 ?_ (by first | omega | (simp; done) | (simp; omega)) _ | with_reducible refine Below.step ?_ (by with_reducible assumption)))
  clear hV t9
  replace kw := kw.step hy; (try clear kw_0 kw_f0 kw_1 kw_f1); have kw_0 := kw.cell 0; have kw_f0 := kw.frozen 0; have kw_1 := kw.cell 1; have kw_f1 := kw.frozen 1; simp only [List.set_cons_zero, List.set_cons_succ, List.getElem?_cons_zero, List.getElem?_cons_succ] at kw_0 kw_1; (try clear lt_kw); have lt_kw := kw.lt; replace kx := kx.step hy; (try clear kx_0 kx_f0 kx_1 kx_f1); have kx_0 := kx.cell 0; have kx_f0 := kx.frozen 0; have kx_1 := kx.cell 1; have kx_f1 := kx.frozen 1; simp only [List.set_cons_zero, List.set_cons_succ, List.getElem?_cons_zero, List.getElem?_cons_succ] at kx_0 kx_1; (try clear lt_kx); have lt_kx := kx.lt
  replace sw := sw.step hy
  replace sx := sx.step hy
  replace hb0 : Below w.heap.size w w10 := by (repeat (first | with_reducible exact Below.refl _ _ | with_reducible assumption | with_reducible refine Below.drew ?_ | with_reducible refine Below.drewN ?_ _ | with_reducible refine Below.alloc1 ?_ _ | with_reducible refine Below.setCell1 ?_ (by first | omega | (simp; done) | (simp; omega)) _ | with_reducible refine Below.step ?_ (by with_reducible assumption)))
  clear hy
  go_wp2_with fail
  with_reducible refine (awHandles _ _ sx).mono ?_; rintro e y0 ⟨BH, dH, rfl, rH, hy0⟩
  replace kw := kw.step hy0; (try clear kw_0 kw_f0 kw_1 kw_f1); have kw_0 := kw.cell 0; have kw_f0 := kw.frozen 0; have kw_1 := kw.cell 1; have kw_f1 := kw.frozen 1; simp only [List.set_cons_zero, List.set_cons_succ, List.getElem?_cons_zero, List.getElem?_cons_succ] at kw_0 kw_1; (try clear lt_kw); have lt_kw := kw.lt; replace kx := kx.step hy0; (try clear kx_0 kx_f0 kx_1 kx_f1); have kx_0 := kx.cell 0; have kx_f0 := kx.frozen 0; have kx_1 := kx.cell 1; have kx_f1 := kx.frozen 1; simp only [List.set_cons_zero, List.set_cons_succ, List.getElem?_cons_zero, List.getElem?_cons_succ] at kx_0 kx_1; (try clear lt_kx); have lt_kx := kx.lt
  replace sw := sw.step hy0
  replace sx := sx.step hy0
  replace hb0 : Below w.heap.size w y0 := by (repeat (first | with_reducible exact Below.refl _ _ | with_reducible assumption | with_reducible refine Below.drew ?_ | with_reducible refine Below.drewN ?_ _ | with_reducible refine Below.alloc1 ?_ _ | with_reducible refine Below.setCell1 ?_ (by first | omega | (simp; done) | (simp; omega)) _ | with_reducible refine Below.step ?_ (by with_reducible assumption)))
  clear hy0
  go_wp2_with fail
  generalize hV : World.alloc y0 _ = v1
  have hy1 : Below y0.heap.size y0 v1 := by subst hV; (repeat (first | with_reducible exact Below.refl _ _ | with_reducible assumption | with_reducible refine Below.drew ?_ | with_reducible refine Below.drewN ?_ _ | with_reducible refine Below.alloc1 ?_ _ | with_reducible refine Below.setCell1 ?_ (by first | omega | (simp; done) | (simp; omega)) _ | with_reducible refine Below.step ?_ (by with_reducible assumption)))
  have kl : Bk v1 y0.heap.size 3 (ints [64, 1]) := by subst hV; exact Bk.new' _ _ _ _ rfl
  replace rH := rH.step hy1
  clear hV
  replace kw := kw.step hy1; (try clear kw_0 kw_f0 kw_1 kw_f1); have kw_0 := kw.cell 0; have kw_f0 := kw.frozen 0; have kw_1 := kw.cell 1; have kw_f1 := kw.frozen 1; simp only [List.set_cons_zero, List.set_cons_succ, List.getElem?_cons_zero, List.getElem?_cons_succ] at kw_0 kw_1; (try clear lt_kw); have lt_kw := kw.lt; replace kx := kx.step hy1; (try clear kx_0 kx_f0 kx_1 kx_f1); have kx_0 := kx.cell 0; have kx_f0 := kx.frozen 0; have kx_1 := kx.cell 1; have kx_f1 := kx.frozen 1; simp only [List.set_cons_zero, List.set_cons_succ, List.getElem?_cons_zero, List.getElem?_cons_succ] at kx_0 kx_1; (try clear lt_kx); have lt_kx := kx.lt
  replace sw := sw.step hy1
  replace sx := sx.step hy1
  replace hb0 : Below w.heap.size w v1 := by (repeat (first | with_reducible exact Below.refl _ _ | with_reducible assumption | with_reducible refine Below.drew ?_ | with_reducible refine Below.drewN ?_ _ | with_reducible refine Below.alloc1 ?_ _ | with_reducible refine Below.setCell1 ?_ (by first | omega | (simp; done) | (simp; omega)) _ | with_reducible refine Below.step ?_ (by with_reducible assumption)))
  clear hy1
  with_reducible refine (awInts _ _ _ _ _ rH kl.rd).mono ?_; rintro e y2 ⟨rfl, n2, rfl⟩
  have hy2 : Below v1.heap.size v1 (v1.drewN n2) := (Below.refl _ _).drewN n2
  generalize v1.drewN n2 = y2 at *
  clear kl rH
  replace kw := kw.step hy2; (try clear kw_0 kw_f0 kw_1 kw_f1); have kw_0 := kw.cell 0; have kw_f0 := kw.frozen 0; have kw_1 := kw.cell 1; have kw_f1 := kw.frozen 1; simp only [List.set_cons_zero, List.set_cons_succ, List.getElem?_cons_zero, List.getElem?_cons_succ] at kw_0 kw_1; (try clear lt_kw); have lt_kw := kw.lt; replace kx := kx.step hy2; (try clear kx_0 kx_f0 kx_1 kx_f1); have kx_0 := kx.cell 0; have kx_f0 := kx.frozen 0; have kx_1 := kx.cell 1; have kx_f1 := kx.frozen 1; simp only [List.set_cons_zero, List.set_cons_succ, List.getElem?_cons_zero, List.getElem?_cons_succ] at kx_0 kx_1; (try clear lt_kx); have lt_kx := kx.lt
  replace sw := sw.step hy2
  replace sx := sx.step hy2
  replace hb0 : Below w.heap.size w y2 := by (repeat (first | with_reducible exact Below.refl _ _ | with_reducible assumption | with_reducible refine Below.drew ?_ | with_reducible refine Below.drewN ?_ _ | with_reducible refine Below.alloc1 ?_ _ | with_reducible refine Below.setCell1 ?_ (by first | omega | (simp; done) | (simp; omega)) _ | with_reducible refine Below.step ?_ (by with_reducible assumption)))
  clear hy2
  go_wp2_with fail
  with_reducible refine (awUsed _ _ sx).mono ?_; rintro e z0 ⟨rfl, hz0⟩
  replace kw := kw.step hz0; (try clear kw_0 kw_f0 kw_1 kw_f1); have kw_0 := kw.cell 0; have kw_f0 := kw.frozen 0; have kw_1 := kw.cell 1; have kw_f1 := kw.frozen 1; simp only [List.set_cons_zero, List.set_cons_succ, List.getElem?_cons_zero, List.getElem?_cons_succ] at kw_0 kw_1; (try clear lt_kw); have lt_kw := kw.lt; replace kx := kx.step hz0; (try clear kx_0 kx_f0 kx_1 kx_f1); have kx_0 := kx.cell 0; have kx_f0 := kx.frozen 0; have kx_1 := kx.cell 1; have kx_f1 := kx.frozen 1; simp only [List.set_cons_zero, List.set_cons_succ, List.getElem?_cons_zero, List.getElem?_cons_succ] at kx_0 kx_1; (try clear lt_kx); have lt_kx := kx.lt
  replace sw := sw.step hz0
  replace sx := sx.step hz0
  replace hb0 : Below w.heap.size w z0 := by (repeat (first | with_reducible exact Below.refl _ _ | with_reducible assumption | with_reducible refine Below.drew ?_ | with_reducible refine Below.drewN ?_ _ | with_reducible refine Below.alloc1 ?_ _ | with_reducible refine Below.setCell1 ?_ (by first | omega | (simp; done) | (simp; omega)) _ | with_reducible refine Below.step ?_ (by with_reducible assumption)))
  clear hz0
  go_wp2_with fail
  with_reducible refine (awCheck _ _ sx).mono ?_; rintro e z1 ⟨rfl, hz1⟩
  replace kw := kw.step hz1; (try clear kw_0 kw_f0 kw_1 kw_f1); have kw_0 := kw.cell 0; have kw_f0 := kw.frozen 0; have kw_1 := kw.cell 1; have kw_f1 := kw.frozen 1; simp only [List.set_cons_zero, List.set_cons_succ, List.getElem?_cons_zero, List.getElem?_cons_succ] at kw_0 kw_1; (try clear lt_kw); have lt_kw := kw.lt; replace kx := kx.step hz1; (try clear kx_0 kx_f0 kx_1 kx_f1); have kx_0 := kx.cell 0; have kx_f0 := kx.frozen 0; have kx_1 := kx.cell 1; have kx_f1 := kx.frozen 1; simp only [List.set_cons_zero, List.set_cons_succ, List.getElem?_cons_zero, List.getElem?_cons_succ] at kx_0 kx_1; (try clear lt_kx); have lt_kx := kx.lt
  replace sw := sw.step hz1
  replace sx := sx.step hz1
  replace hb0 : Below w.heap.size w z1 := by (repeat (first | with_reducible exact Below.refl _ _ | with_reducible assumption | with_reducible refine Below.drew ?_ | with_reducible refine Below.drewN ?_ _ | with_reducible refine Below.alloc1 ?_ _ | with_reducible refine Below.setCell1 ?_ (by first | omega | (simp; done) | (simp; omega)) _ | with_reducible refine Below.step ?_ (by with_reducible assumption)))
  clear hz1
  go_wp2_with fail
  with_reducible refine (awCheck0 _).mono ?_; rintro e z2 ⟨rfl, hz2⟩
  replace kw := kw.step hz2; (try clear kw_0 kw_f0 kw_1 kw_f1); have kw_0 := kw.cell 0; have kw_f0 := kw.frozen 0; have kw_1 := kw.cell 1; have kw_f1 := kw.frozen 1; simp only [List.set_cons_zero, List.set_cons_succ, List.getElem?_cons_zero, List.getElem?_cons_succ] at kw_0 kw_1; (try clear lt_kw); have lt_kw := kw.lt; replace kx := kx.step hz2; (try clear kx_0 kx_f0 kx_1 kx_f1); have kx_0 := kx.cell 0; have kx_f0 := kx.frozen 0; have kx_1 := kx.cell 1; have kx_f1 := kx.frozen 1; simp only [List.set_cons_zero, List.set_cons_succ, List.getElem?_cons_zero, List.getElem?_cons_succ] at kx_0 kx_1; (try clear lt_kx); have lt_kx := kx.lt
  replace sw := sw.step hz2
  replace sx := sx.step hz2
  replace hb0 : Below w.heap.size w z2 := by (repeat (first | with_reducible exact Below.refl _ _ | with_reducible assumption | with_reducible refine Below.drew ?_ | with_reducible refine Below.drewN ?_ _ | with_reducible refine Below.alloc1 ?_ _ | with_reducible refine Below.setCell1 ?_ (by first | omega | (simp; done) | (simp; omega)) _ | with_reducible refine Below.step ?_ (by with_reducible assumption)))
  clear hz2
  go_wp2_with fail
  with_reducible refine (awSame1 _ _ _ sw sx).mono ?_; rintro e z3 ⟨rfl, hz3⟩
  replace kw := kw.step hz3; (try clear kw_0 kw_f0 kw_1 kw_f1); have kw_0 := kw.cell 0; have kw_f0 := kw.frozen 0; have kw_1 := kw.cell 1; have kw_f1 := kw.frozen 1; simp only [List.set_cons_zero, List.set_cons_succ, List.getElem?_cons_zero, List.getElem?_cons_succ] at kw_0 kw_1; (try clear lt_kw); have lt_kw := kw.lt; replace kx := kx.step hz3; (try clear kx_0 kx_f0 kx_1 kx_f1); have kx_0 := kx.cell 0; have kx_f0 := kx.frozen 0; have kx_1 := kx.cell 1; have kx_f1 := kx.frozen 1; simp only [List.set_cons_zero, List.set_cons_succ, List.getElem?_cons_zero, List.getElem?_cons_succ] at kx_0 kx_1; (try clear lt_kx); have lt_kx := kx.lt
  replace sw := sw.step hz3
  replace sx := sx.step hz3
  replace hb0 : Below w.heap.size w z3 := by (repeat (first | with_reducible exact Below.refl _ _ | with_reducible assumption | with_reducible refine Below.drew ?_ | with_reducible refine Below.drewN ?_ _ | with_reducible refine Below.alloc1 ?_ _ | with_reducible refine Below.setCell1 ?_ (by first | omega | (simp; done) | (simp; omega)) _ | with_reducible refine Below.step ?_ (by with_reducible assumption)))
  clear hz3
  go_wp2_with fail
  with_reducible refine (awSame2 _ _ sx).mono ?_; rintro e z4 ⟨rfl, hz4⟩
  replace kw := kw.step hz4; (try clear kw_0 kw_f0 kw_1 kw_f1); have kw_0 := kw.cell 0; have kw_f0 := kw.frozen 0; have kw_1 := kw.cell 1; have kw_f1 := kw.frozen 1; simp only [List.set_cons_zero, List.set_cons_succ, List.getElem?_cons_zero, List.getElem?_cons_succ] at kw_0 kw_1; (try clear lt_kw); have lt_kw := kw.lt; replace kx := kx.step hz4; (try clear kx_0 kx_f0 kx_1 kx_f1); have kx_0 := kx.cell 0; have kx_f0 := kx.frozen 0; have kx_1 := kx.cell 1; have kx_f1 := kx.frozen 1; simp only [List.set_cons_zero, List.set_cons_succ, List.getElem?_cons_zero, List.getElem?_cons_succ] at kx_0 kx_1; (try clear lt_kx); have lt_kx := kx.lt
  replace sw := sw.step hz4
  replace sx := sx.step hz4
  replace hb0 : Below w.heap.size w z4 := by (repeat (first | with_reducible exact Below.refl _ _ | with_reducible assumption | with_reducible refine Below.drew ?_ | with_reducible refine Below.drewN ?_ _ | with_reducible refine Below.alloc1 ?_ _ | with_reducible refine Below.setCell1 ?_ (by first | omega | (simp; done) | (simp; omega)) _ | with_reducible refine Below.step ?_ (by with_reducible assumption)))
  clear hz4
  go_wp2
  go_ret
  exact ⟨rfl, hb0⟩
end Go.Proofs.Ytnmpighdkdffbaa
