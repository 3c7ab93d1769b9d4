/- AddrReads: the walk. -/
import Derived.Test.YtmncjoihhdefcaaAwake09
namespace Go.Proofs.Ytmncjoihhdefcaa
open Go.RowKit Go.Shelf
set_option linter.unusedSimpArgs false
set_option linter.unusedVariables false

set_option maxRecDepth 1000000 in
set_option maxHeartbeats 8000000 in
theorem AddrReads_walk (s r : ByteArray) (w : World) (hm : MW w) :
    Calls Try.prog 3 #[.string s, .string r] w fun e w' => e = .returned (.bool true) ∧ Below w.heap.size w w' := by
  have hlen : (s.size ≤ 100 ∧ r.size ≤ 100) ∨ 100 < s.size ∨ (s.size ≤ 100 ∧ 100 < r.size) := by omega
  rcases hlen with ⟨hs, hr⟩ | hs | ⟨hs, hr⟩
  rotate_left
  · have hI : (100 : Int) < (s.size : Int) := by omega
    go_enter Try.func3, Try.ntmps3
    go_wp2_with fail
    refine (awake09 _ hm).mono ?_; rintro e w1 ⟨rfl, hb⟩
    go_wp2_with fail
    go_ret
    exact ⟨rfl, hb⟩
  · have hI : (s.size : Int) ≤ 100 := by omega
    have hJ : (100 : Int) < (r.size : Int) := by omega
    go_enter Try.func3, Try.ntmps3
    go_wp2_with fail
    refine (awake09 _ hm).mono ?_; rintro e w1 ⟨rfl, hb⟩
    go_wp2_with fail
    go_ret
    exact ⟨rfl, hb⟩
  have hI : (s.size : Int) ≤ 100 := by omega
  have hJ : (r.size : Int) ≤ 100 := by omega
  have a1 := fun W hW => addr_Parse_any s (by omega) W hW
  have a2 := fun W => ref09_Parse_any s (by omega) W
  have b1 := fun W hW => addr_Bare_any s (by omega) W hW
  have b2 := fun W => ref09_Bare_any s (by omega) W
  have f1 := fun W hW => addr_Full_any s r (by omega) (by omega) W hW
  have f2 := fun W => ref09_Full_any s r (by omega) (by omega) W
  have i1 := fun W hW => addr_IsBare_any s (by omega) W hW
  have i2 := fun W => ref09_IsBare_any s (by omega) W
  have r1 := fun W => addr_Resource_any r (by omega) W
  have r2 := fun W => ref09_Resource_any r (by omega) W
  generalize aParse s.data.toList = P at *
  obtain ⟨⟨n, h, q⟩, c⟩ := P
  generalize aBare s.data.toList = B at *
  generalize aFull s.data.toList r.data.toList = F at *
  generalize aIsBare s.data.toList = I at *
  generalize aRes r.data.toList = Q at *
  dsimp only at *
  unfold aV at *
  go_enter Try.func3, Try.ntmps3
  go_wp2_with fail
  refine (a1 _ hm).mono ?_; rintro e w1 ⟨rfl, h1⟩
  have hb := h1
  replace hm := hm.step h1
  clear h1
  go_wp2_with fail
  generalize hV : World.alloc w1 _ = w2
  have h2 : Below w1.heap.size w1 w2 := by subst hV; (repeat (first | with_reducible exact Below.refl _ _ | with_reducible assumption | with_reducible refine Below.drew ?_ | with_reducible refine Below.drewN ?_ _ | with_reducible refine Below.alloc1 ?_ _ | with_reducible refine Below.setCell1 ?_ (by first | omega | (simp; done) | (simp; omega)) _ | with_reducible refine Below.step ?_ (by with_reducible assumption)))
  have q0 : Bk w2 w1.heap.size 24 [.string (strOf n), .string (strOf h), .string (strOf q)] := by subst hV; exact Bk.new w1 _ _
  clear hV
  replace hb := hb.step h2
  replace hm := hm.step h2
  have q0_0 := q0.cell 0; have q0_f0 := q0.frozen 0; have q0_1 := q0.cell 1; have q0_f1 := q0.frozen 1; have q0_2 := q0.cell 2; have q0_f2 := q0.frozen 2; simp only [List.set_cons_zero, List.set_cons_succ, List.getElem?_cons_zero, List.getElem?_cons_succ] at q0_0 q0_1 q0_2; have lt_q0 := q0.lt
  clear h2
  refine (a2 _).mono ?_; rintro e w3 ⟨rfl, h3⟩
  replace hb := hb.step h3
  replace hm := hm.step h3
  replace q0 := q0.step h3; (try clear q0_0 q0_f0 q0_1 q0_f1 q0_2 q0_f2); have q0_0 := q0.cell 0; have q0_f0 := q0.frozen 0; have q0_1 := q0.cell 1; have q0_f1 := q0.frozen 1; have q0_2 := q0.cell 2; have q0_f2 := q0.frozen 2; simp only [List.set_cons_zero, List.set_cons_succ, List.getElem?_cons_zero, List.getElem?_cons_succ] at q0_0 q0_1 q0_2; (try clear lt_q0); have lt_q0 := q0.lt
  clear h3
  go_wp2_with fail
  generalize hV : World.alloc w3 _ = w4
  have h4 : Below w3.heap.size w3 w4 := by subst hV; (repeat (first | with_reducible exact Below.refl _ _ | with_reducible assumption | with_reducible refine Below.drew ?_ | with_reducible refine Below.drewN ?_ _ | with_reducible refine Below.alloc1 ?_ _ | with_reducible refine Below.setCell1 ?_ (by first | omega | (simp; done) | (simp; omega)) _ | with_reducible refine Below.step ?_ (by with_reducible assumption)))
  have q1 : Bk w4 w3.heap.size 28 [.string (strOf n), .string (strOf h), .string (strOf q)] := by subst hV; exact Bk.new w3 _ _
  clear hV
  replace hb := hb.step h4
  replace hm := hm.step h4
  replace q0 := q0.step h4; (try clear q0_0 q0_f0 q0_1 q0_f1 q0_2 q0_f2); have q0_0 := q0.cell 0; have q0_f0 := q0.frozen 0; have q0_1 := q0.cell 1; have q0_f1 := q0.frozen 1; have q0_2 := q0.cell 2; have q0_f2 := q0.frozen 2; simp only [List.set_cons_zero, List.set_cons_succ, List.getElem?_cons_zero, List.getElem?_cons_succ] at q0_0 q0_1 q0_2; (try clear lt_q0); have lt_q0 := q0.lt
  have q1_0 := q1.cell 0; have q1_f0 := q1.frozen 0; have q1_1 := q1.cell 1; have q1_f1 := q1.frozen 1; have q1_2 := q1.cell 2; have q1_f2 := q1.frozen 2; simp only [List.set_cons_zero, List.set_cons_succ, List.getElem?_cons_zero, List.getElem?_cons_succ] at q1_0 q1_1 q1_2; have lt_q1 := q1.lt
  clear h4
  refine (b1 _ hm).mono ?_; rintro e w5 ⟨rfl, h5⟩
  replace hb := hb.step h5
  replace hm := hm.step h5
  replace q0 := q0.step h5; (try clear q0_0 q0_f0 q0_1 q0_f1 q0_2 q0_f2); have q0_0 := q0.cell 0; have q0_f0 := q0.frozen 0; have q0_1 := q0.cell 1; have q0_f1 := q0.frozen 1; have q0_2 := q0.cell 2; have q0_f2 := q0.frozen 2; simp only [List.set_cons_zero, List.set_cons_succ, List.getElem?_cons_zero, List.getElem?_cons_succ] at q0_0 q0_1 q0_2; (try clear lt_q0); have lt_q0 := q0.lt; replace q1 := q1.step h5; (try clear q1_0 q1_f0 q1_1 q1_f1 q1_2 q1_f2); have q1_0 := q1.cell 0; have q1_f0 := q1.frozen 0; have q1_1 := q1.cell 1; have q1_f1 := q1.frozen 1; have q1_2 := q1.cell 2; have q1_f2 := q1.frozen 2; simp only [List.set_cons_zero, List.set_cons_succ, List.getElem?_cons_zero, List.getElem?_cons_succ] at q1_0 q1_1 q1_2; (try clear lt_q1); have lt_q1 := q1.lt
  clear h5
  go_wp2_with fail
  refine (b2 _).mono ?_; rintro e w6 ⟨rfl, h6⟩
  replace hb := hb.step h6
  replace hm := hm.step h6
  replace q0 := q0.step h6; (try clear q0_0 q0_f0 q0_1 q0_f1 q0_2 q0_f2); have q0_0 := q0.cell 0; have q0_f0 := q0.frozen 0; have q0_1 := q0.cell 1; have q0_f1 := q0.frozen 1; have q0_2 := q0.cell 2; have q0_f2 := q0.frozen 2; simp only [List.set_cons_zero, List.set_cons_succ, List.getElem?_cons_zero, List.getElem?_cons_succ] at q0_0 q0_1 q0_2; (try clear lt_q0); have lt_q0 := q0.lt; replace q1 := q1.step h6; (try clear q1_0 q1_f0 q1_1 q1_f1 q1_2 q1_f2); have q1_0 := q1.cell 0; have q1_f0 := q1.frozen 0; have q1_1 := q1.cell 1; have q1_f1 := q1.frozen 1; have q1_2 := q1.cell 2; have q1_f2 := q1.frozen 2; simp only [List.set_cons_zero, List.set_cons_succ, List.getElem?_cons_zero, List.getElem?_cons_succ] at q1_0 q1_1 q1_2; (try clear lt_q1); have lt_q1 := q1.lt
  clear h6
  go_wp2_with fail
  refine (f1 _ hm).mono ?_; rintro e w7 ⟨rfl, h7⟩
  replace hb := hb.step h7
  replace hm := hm.step h7
  replace q0 := q0.step h7; (try clear q0_0 q0_f0 q0_1 q0_f1 q0_2 q0_f2); have q0_0 := q0.cell 0; have q0_f0 := q0.frozen 0; have q0_1 := q0.cell 1; have q0_f1 := q0.frozen 1; have q0_2 := q0.cell 2; have q0_f2 := q0.frozen 2; simp only [List.set_cons_zero, List.set_cons_succ, List.getElem?_cons_zero, List.getElem?_cons_succ] at q0_0 q0_1 q0_2; (try clear lt_q0); have lt_q0 := q0.lt; replace q1 := q1.step h7; (try clear q1_0 q1_f0 q1_1 q1_f1 q1_2 q1_f2); have q1_0 := q1.cell 0; have q1_f0 := q1.frozen 0; have q1_1 := q1.cell 1; have q1_f1 := q1.frozen 1; have q1_2 := q1.cell 2; have q1_f2 := q1.frozen 2; simp only [List.set_cons_zero, List.set_cons_succ, List.getElem?_cons_zero, List.getElem?_cons_succ] at q1_0 q1_1 q1_2; (try clear lt_q1); have lt_q1 := q1.lt
  clear h7
  go_wp2_with fail
  refine (f2 _).mono ?_; rintro e w8 ⟨rfl, h8⟩
  replace hb := hb.step h8
  replace hm := hm.step h8
  replace q0 := q0.step h8; (try clear q0_0 q0_f0 q0_1 q0_f1 q0_2 q0_f2); have q0_0 := q0.cell 0; have q0_f0 := q0.frozen 0; have q0_1 := q0.cell 1; have q0_f1 := q0.frozen 1; have q0_2 := q0.cell 2; have q0_f2 := q0.frozen 2; simp only [List.set_cons_zero, List.set_cons_succ, List.getElem?_cons_zero, List.getElem?_cons_succ] at q0_0 q0_1 q0_2; (try clear lt_q0); have lt_q0 := q0.lt; replace q1 := q1.step h8; (try clear q1_0 q1_f0 q1_1 q1_f1 q1_2 q1_f2); have q1_0 := q1.cell 0; have q1_f0 := q1.frozen 0; have q1_1 := q1.cell 1; have q1_f1 := q1.frozen 1; have q1_2 := q1.cell 2; have q1_f2 := q1.frozen 2; simp only [List.set_cons_zero, List.set_cons_succ, List.getElem?_cons_zero, List.getElem?_cons_succ] at q1_0 q1_1 q1_2; (try clear lt_q1); have lt_q1 := q1.lt
  clear h8
  go_wp2_with fail
  refine (i1 _ hm).mono ?_; rintro e w9 ⟨rfl, h9⟩
  replace hb := hb.step h9
  replace hm := hm.step h9
  replace q0 := q0.step h9; (try clear q0_0 q0_f0 q0_1 q0_f1 q0_2 q0_f2); have q0_0 := q0.cell 0; have q0_f0 := q0.frozen 0; have q0_1 := q0.cell 1; have q0_f1 := q0.frozen 1; have q0_2 := q0.cell 2; have q0_f2 := q0.frozen 2; simp only [List.set_cons_zero, List.set_cons_succ, List.getElem?_cons_zero, List.getElem?_cons_succ] at q0_0 q0_1 q0_2; (try clear lt_q0); have lt_q0 := q0.lt; replace q1 := q1.step h9; (try clear q1_0 q1_f0 q1_1 q1_f1 q1_2 q1_f2); have q1_0 := q1.cell 0; have q1_f0 := q1.frozen 0; have q1_1 := q1.cell 1; have q1_f1 := q1.frozen 1; have q1_2 := q1.cell 2; have q1_f2 := q1.frozen 2; simp only [List.set_cons_zero, List.set_cons_succ, List.getElem?_cons_zero, List.getElem?_cons_succ] at q1_0 q1_1 q1_2; (try clear lt_q1); have lt_q1 := q1.lt
  clear h9
  go_wp2_with fail
  refine (i2 _).mono ?_; rintro e w10 ⟨rfl, h10⟩
  replace hb := hb.step h10
  replace hm := hm.step h10
  replace q0 := q0.step h10; (try clear q0_0 q0_f0 q0_1 q0_f1 q0_2 q0_f2); have q0_0 := q0.cell 0; have q0_f0 := q0.frozen 0; have q0_1 := q0.cell 1; have q0_f1 := q0.frozen 1; have q0_2 := q0.cell 2; have q0_f2 := q0.frozen 2; simp only [List.set_cons_zero, List.set_cons_succ, List.getElem?_cons_zero, List.getElem?_cons_succ] at q0_0 q0_1 q0_2; (try clear lt_q0); have lt_q0 := q0.lt; replace q1 := q1.step h10; (try clear q1_0 q1_f0 q1_1 q1_f1 q1_2 q1_f2); have q1_0 := q1.cell 0; have q1_f0 := q1.frozen 0; have q1_1 := q1.cell 1; have q1_f1 := q1.frozen 1; have q1_2 := q1.cell 2; have q1_f2 := q1.frozen 2; simp only [List.set_cons_zero, List.set_cons_succ, List.getElem?_cons_zero, List.getElem?_cons_succ] at q1_0 q1_1 q1_2; (try clear lt_q1); have lt_q1 := q1.lt
  clear h10
  go_wp2_with fail
  refine (r1 _).mono ?_; rintro e w11 ⟨rfl, h11⟩
  replace hb := hb.step h11
  replace hm := hm.step h11
  replace q0 := q0.step h11; (try clear q0_0 q0_f0 q0_1 q0_f1 q0_2 q0_f2); have q0_0 := q0.cell 0; have q0_f0 := q0.frozen 0; have q0_1 := q0.cell 1; have q0_f1 := q0.frozen 1; have q0_2 := q0.cell 2; have q0_f2 := q0.frozen 2; simp only [List.set_cons_zero, List.set_cons_succ, List.getElem?_cons_zero, List.getElem?_cons_succ] at q0_0 q0_1 q0_2; (try clear lt_q0); have lt_q0 := q0.lt; replace q1 := q1.step h11; (try clear q1_0 q1_f0 q1_1 q1_f1 q1_2 q1_f2); have q1_0 := q1.cell 0; have q1_f0 := q1.frozen 0; have q1_1 := q1.cell 1; have q1_f1 := q1.frozen 1; have q1_2 := q1.cell 2; have q1_f2 := q1.frozen 2; simp only [List.set_cons_zero, List.set_cons_succ, List.getElem?_cons_zero, List.getElem?_cons_succ] at q1_0 q1_1 q1_2; (try clear lt_q1); have lt_q1 := q1.lt
  clear h11
  go_wp2_with fail
  refine (r2 _).mono ?_; rintro e w12 ⟨rfl, h12⟩
  replace hb := hb.step h12
  replace hm := hm.step h12
  replace q0 := q0.step h12; (try clear q0_0 q0_f0 q0_1 q0_f1 q0_2 q0_f2); have q0_0 := q0.cell 0; have q0_f0 := q0.frozen 0; have q0_1 := q0.cell 1; have q0_f1 := q0.frozen 1; have q0_2 := q0.cell 2; have q0_f2 := q0.frozen 2; simp only [List.set_cons_zero, List.set_cons_succ, List.getElem?_cons_zero, List.getElem?_cons_succ] at q0_0 q0_1 q0_2; (try clear lt_q0); have lt_q0 := q0.lt; replace q1 := q1.step h12; (try clear q1_0 q1_f0 q1_1 q1_f1 q1_2 q1_f2); have q1_0 := q1.cell 0; have q1_f0 := q1.frozen 0; have q1_1 := q1.cell 1; have q1_f1 := q1.frozen 1; have q1_2 := q1.cell 2; have q1_f2 := q1.frozen 2; simp only [List.set_cons_zero, List.set_cons_succ, List.getElem?_cons_zero, List.getElem?_cons_succ] at q1_0 q1_1 q1_2; (try clear lt_q1); have lt_q1 := q1.lt
  clear h12
  go_wp2_with fail
  refine (awake09 _ hm).mono ?_; rintro e w13 ⟨rfl, h13⟩
  replace hb := hb.step h13
  replace hm := hm.step h13
  replace q0 := q0.step h13; (try clear q0_0 q0_f0 q0_1 q0_f1 q0_2 q0_f2); have q0_0 := q0.cell 0; have q0_f0 := q0.frozen 0; have q0_1 := q0.cell 1; have q0_f1 := q0.frozen 1; have q0_2 := q0.cell 2; have q0_f2 := q0.frozen 2; simp only [List.set_cons_zero, List.set_cons_succ, List.getElem?_cons_zero, List.getElem?_cons_succ] at q0_0 q0_1 q0_2; (try clear lt_q0); have lt_q0 := q0.lt; replace q1 := q1.step h13; (try clear q1_0 q1_f0 q1_1 q1_f1 q1_2 q1_f2); have q1_0 := q1.cell 0; have q1_f0 := q1.frozen 0; have q1_1 := q1.cell 1; have q1_f1 := q1.frozen 1; have q1_2 := q1.cell 2; have q1_f2 := q1.frozen 2; simp only [List.set_cons_zero, List.set_cons_succ, List.getElem?_cons_zero, List.getElem?_cons_succ] at q1_0 q1_1 q1_2; (try clear lt_q1); have lt_q1 := q1.lt
  clear h13
  go_wp2_with fail
  go_ret
  exact ⟨by simp, hb⟩
end Go.Proofs.Ytmncjoihhdefcaa
