/- The reference of package addr: Resource, Check, Print, Less. -/
import Derived.Test.YtfgfkiifekeeaaaAdr2
import Derived.Test.YtfgfkiifekeeaaaAd8
namespace Go.Proofs.Ytfgfkiifekeeaaa
open Go.RowKit Go.Shelf
set_option linter.unusedSimpArgs false
set_option linter.unusedVariables false

set_option maxRecDepth 100000 in
set_option maxHeartbeats 4000000 in
theorem ref09_Resource_any (s : ByteArray) (hs : s.size ≤ 1000000) (w : World) : Calls Try.prog 50 #[.string s] w fun e w' => e = .returned (.int .i64 (aRes s.data.toList)) ∧ Below w.heap.size w w' := by
  have k0 := fun W => ref02_Plain_any s hs W
  unfold aRes
  rw [list_size]
  generalize uPlain s.data.toList = p at *
  by_cases h12 : 12 < s.size
  · have hI : (12 : Int) < (s.size : Int) := by omega
    rw [if_pos h12]
    clear h12
    go_enter Try.func50, Try.ntmps50
    go_wp2_with fail
    go_ret
    exact ⟨rfl, Below.refl _ _⟩
  have hI : (s.size : Int) ≤ 12 := by omega
  rw [if_neg h12]
  clear h12
  cases p with
  | false =>
    rw [if_neg (by simp)]
    go_enter Try.func50, Try.ntmps50
    go_wp2_with fail
    refine (k0 _).mono ?_; rintro e w1 ⟨rfl, hb⟩
    go_wp2_with fail
    go_ret
    exact ⟨rfl, hb⟩
  | true =>
    rw [if_pos rfl]
    go_enter Try.func50, Try.ntmps50
    go_wp2_with fail
    refine (k0 _).mono ?_; rintro e w1 ⟨rfl, hb⟩
    go_wp2_with fail
    go_ret
    exact ⟨rfl, hb⟩
set_option maxRecDepth 100000 in
set_option maxHeartbeats 4000000 in
theorem ref09_Check_any (n h r : ByteArray) (hn : n.size ≤ 1000000) (hh : h.size ≤ 1000000) (hr : r.size ≤ 1000000) (w : World) : Calls Try.prog 66 #[aV n h r] w fun e w' =>
    e = .returned (.int .i64 (aCheck n.data.toList h.data.toList r.data.toList)) ∧ Below w.heap.size w w' := by
  have k1 := fun W => ref09_name_any n hn W
  have k2 := fun W => ref09_host_any h hh W
  have k3 := fun W => ref02_Plain_any r hr W
  have hnE := isE2 n
  have hhE := isE2 h
  have hq := rHost_eq h.data.toList
  obtain ⟨R, hR⟩ : ∃ R, R = aCheck n.data.toList h.data.toList r.data.toList := ⟨_, rfl⟩
  rw [← hR]
  unfold aCheck at hR
  rw [list_size, list_size, list_size] at hR
  generalize aName n.data.toList = pn at *
  generalize rHost h.data.toList = ph at *
  generalize uPlain r.data.toList = pr at *
  replace hR := hide hR
  replace hq := hide hq
  by_cases h1 : 16 < n.size
  · have hI : (16 : Int) < (n.size : Int) := by omega
    have hR2 := hide (show R = 5 by rw [hR.out, if_pos (by omega)])
    clear hR h1 hnE hhE
    unfold aV at *
    go_enter Try.func66, Try.ntmps66
    go_wp2_with fail
    go_ret
    exact ⟨by rw [hR2.out]; rfl, by (repeat (first | with_reducible exact Below.refl _ _ | with_reducible assumption | with_reducible refine Below.drew ?_ | with_reducible refine Below.drewN ?_ _ | with_reducible refine Below.alloc1 ?_ _ | with_reducible refine Below.setCell1 ?_ (by first | omega | (simp; done) | (simp; omega)) _ | with_reducible refine Below.step ?_ (by with_reducible assumption)))⟩
  have i1 : (n.size : Int) ≤ 16 := by omega
  by_cases h2 : 16 < h.size
  · have hI : (16 : Int) < (h.size : Int) := by omega
    have hR2 := hide (show R = 5 by rw [hR.out, if_pos (by omega)])
    clear hR h1 h2 hnE hhE
    unfold aV at *
    go_enter Try.func66, Try.ntmps66
    go_wp2_with fail
    go_ret
    exact ⟨by rw [hR2.out]; rfl, by (repeat (first | with_reducible exact Below.refl _ _ | with_reducible assumption | with_reducible refine Below.drew ?_ | with_reducible refine Below.drewN ?_ _ | with_reducible refine Below.alloc1 ?_ _ | with_reducible refine Below.setCell1 ?_ (by first | omega | (simp; done) | (simp; omega)) _ | with_reducible refine Below.step ?_ (by with_reducible assumption)))⟩
  have i2 : (h.size : Int) ≤ 16 := by omega
  by_cases h3 : 12 < r.size
  · have hI : (12 : Int) < (r.size : Int) := by omega
    have hR2 := hide (show R = 5 by rw [hR.out, if_pos (by omega)])
    clear hR h1 h2 h3 hnE hhE
    unfold aV at *
    go_enter Try.func66, Try.ntmps66
    go_wp2_with fail
    go_ret
    exact ⟨by rw [hR2.out]; rfl, by (repeat (first | with_reducible exact Below.refl _ _ | with_reducible assumption | with_reducible refine Below.drew ?_ | with_reducible refine Below.drewN ?_ _ | with_reducible refine Below.alloc1 ?_ _ | with_reducible refine Below.setCell1 ?_ (by first | omega | (simp; done) | (simp; omega)) _ | with_reducible refine Below.step ?_ (by with_reducible assumption)))⟩
  have i3 : (r.size : Int) ≤ 12 := by omega
  have hR1 := hide (hR.out.trans (if_neg (by omega)))
  clear hR h1 h2 h3
  by_cases en : n.data.toList = []
  · have hR2 := hide (show R = 4 by rw [hR1.out, if_pos (.inl en)])
    rw [decide_eq_true en] at hnE
    clear hR1 en hhE
    unfold aV at *
    go_enter Try.func66, Try.ntmps66
    go_wp2_with fail
    go_ret
    exact ⟨by rw [hR2.out]; rfl, by (repeat (first | with_reducible exact Below.refl _ _ | with_reducible assumption | with_reducible refine Below.drew ?_ | with_reducible refine Below.drewN ?_ _ | with_reducible refine Below.alloc1 ?_ _ | with_reducible refine Below.setCell1 ?_ (by first | omega | (simp; done) | (simp; omega)) _ | with_reducible refine Below.step ?_ (by with_reducible assumption)))⟩
  rw [decide_eq_false en] at hnE
  by_cases eh : h.data.toList = []
  · have hR2 := hide (show R = 4 by rw [hR1.out, if_pos (.inr eh)])
    rw [decide_eq_true eh] at hhE
    clear hR1 en eh
    unfold aV at *
    go_enter Try.func66, Try.ntmps66
    go_wp2_with fail
    go_ret
    exact ⟨by rw [hR2.out]; rfl, by (repeat (first | with_reducible exact Below.refl _ _ | with_reducible assumption | with_reducible refine Below.drew ?_ | with_reducible refine Below.drewN ?_ _ | with_reducible refine Below.alloc1 ?_ _ | with_reducible refine Below.setCell1 ?_ (by first | omega | (simp; done) | (simp; omega)) _ | with_reducible refine Below.step ?_ (by with_reducible assumption)))⟩
  rw [decide_eq_false eh] at hhE
  have hR2 := hR1.out.trans (if_neg (by rintro (h | h) <;> contradiction))
  rw [← hq.out eh] at hR2
  replace hR2 := hide hR2
  clear hR1 en eh hq
  unfold aV at *
  cases pn with
  | false =>
    have hR3 := hide (show R = 11 by rw [hR2.out]; rfl)
    go_enter Try.func66, Try.ntmps66
    go_wp2_with fail
    refine (k1 _).mono ?_; rintro e w3 ⟨rfl, hb2⟩
    go_wp2_with fail
    go_ret
    exact ⟨by rw [hR3.out]; rfl, (show Below w.heap.size w _ by (repeat (first | with_reducible exact Below.refl _ _ | with_reducible assumption | with_reducible refine Below.drew ?_ | with_reducible refine Below.drewN ?_ _ | with_reducible refine Below.alloc1 ?_ _ | with_reducible refine Below.setCell1 ?_ (by first | omega | (simp; done) | (simp; omega)) _ | with_reducible refine Below.step ?_ (by with_reducible assumption)))).step hb2⟩
  | true =>
  cases ph with
  | false =>
    have hR3 := hide (show R = 11 by rw [hR2.out]; rfl)
    go_enter Try.func66, Try.ntmps66
    go_wp2_with fail
    generalize hV : World.alloc w _ = w1
    have hb : Below w.heap.size w w1 := by subst hV; (repeat (first | with_reducible exact Below.refl _ _ | with_reducible assumption | with_reducible refine Below.drew ?_ | with_reducible refine Below.drewN ?_ _ | with_reducible refine Below.alloc1 ?_ _ | with_reducible refine Below.setCell1 ?_ (by first | omega | (simp; done) | (simp; omega)) _ | with_reducible refine Below.step ?_ (by with_reducible assumption)))
    have q0 : Bk w1 w.heap.size 98 (aC n h r) := by subst hV; exact Bk.new w _ (aC n h r)
    clear hV
    unfold aC at q0
    refine (k1 _).mono ?_; rintro e w3 ⟨rfl, hb2⟩
    replace hb := hb.step hb2
    replace q0 := q0.step hb2
    have q0_0 := q0.cell 0; have q0_f0 := q0.frozen 0; have q0_1 := q0.cell 1; have q0_f1 := q0.frozen 1; have q0_2 := q0.cell 2; have q0_f2 := q0.frozen 2; simp only [List.set_cons_zero, List.set_cons_succ, List.getElem?_cons_zero, List.getElem?_cons_succ] at q0_0 q0_1 q0_2; have lt_q0 := q0.lt
    go_wp2_with fail
    refine (k2 _).mono ?_; rintro e w4 ⟨rfl, hb3⟩
    go_wp2_with fail
    go_ret
    exact ⟨by rw [hR3.out]; rfl, hb.step hb3⟩
  | true =>
  have fin : R = if pr = true then 0 else 11 := by rw [hR2.out]; cases pr <;> rfl
  replace fin := hide fin
  clear hR2
  cases pr with
  | false =>
    go_enter Try.func66, Try.ntmps66
    go_wp2_with fail
    generalize hV : World.alloc w _ = w1
    have hb : Below w.heap.size w w1 := by subst hV; (repeat (first | with_reducible exact Below.refl _ _ | with_reducible assumption | with_reducible refine Below.drew ?_ | with_reducible refine Below.drewN ?_ _ | with_reducible refine Below.alloc1 ?_ _ | with_reducible refine Below.setCell1 ?_ (by first | omega | (simp; done) | (simp; omega)) _ | with_reducible refine Below.step ?_ (by with_reducible assumption)))
    have q0 : Bk w1 w.heap.size 98 (aC n h r) := by subst hV; exact Bk.new w _ (aC n h r)
    clear hV
    unfold aC at q0
    refine (k1 _).mono ?_; rintro e w3 ⟨rfl, hb2⟩
    replace hb := hb.step hb2
    replace q0 := q0.step hb2
    have q0_0 := q0.cell 0; have q0_f0 := q0.frozen 0; have q0_1 := q0.cell 1; have q0_f1 := q0.frozen 1; have q0_2 := q0.cell 2; have q0_f2 := q0.frozen 2; simp only [List.set_cons_zero, List.set_cons_succ, List.getElem?_cons_zero, List.getElem?_cons_succ] at q0_0 q0_1 q0_2; have lt_q0 := q0.lt
    go_wp2_with fail
    refine (k2 _).mono ?_; rintro e w4 ⟨rfl, hb3⟩
    replace hb := hb.step hb3
    replace q0 := q0.step hb3; (try clear q0_0 q0_f0 q0_1 q0_f1 q0_2 q0_f2); have q0_0 := q0.cell 0; have q0_f0 := q0.frozen 0; have q0_1 := q0.cell 1; have q0_f1 := q0.frozen 1; have q0_2 := q0.cell 2; have q0_f2 := q0.frozen 2; simp only [List.set_cons_zero, List.set_cons_succ, List.getElem?_cons_zero, List.getElem?_cons_succ] at q0_0 q0_1 q0_2; (try clear lt_q0); have lt_q0 := q0.lt
    go_wp2_with fail
    refine (k3 _).mono ?_; rintro e w5 ⟨rfl, hb4⟩
    go_wp2_with fail
    go_ret
    exact ⟨by rw [fin.out]; rfl, hb.step hb4⟩
  | true =>
    go_enter Try.func66, Try.ntmps66
    go_wp2_with fail
    generalize hV : World.alloc w _ = w1
    have hb : Below w.heap.size w w1 := by subst hV; (repeat (first | with_reducible exact Below.refl _ _ | with_reducible assumption | with_reducible refine Below.drew ?_ | with_reducible refine Below.drewN ?_ _ | with_reducible refine Below.alloc1 ?_ _ | with_reducible refine Below.setCell1 ?_ (by first | omega | (simp; done) | (simp; omega)) _ | with_reducible refine Below.step ?_ (by with_reducible assumption)))
    have q0 : Bk w1 w.heap.size 98 (aC n h r) := by subst hV; exact Bk.new w _ (aC n h r)
    clear hV
    unfold aC at q0
    refine (k1 _).mono ?_; rintro e w3 ⟨rfl, hb2⟩
    replace hb := hb.step hb2
    replace q0 := q0.step hb2
    have q0_0 := q0.cell 0; have q0_f0 := q0.frozen 0; have q0_1 := q0.cell 1; have q0_f1 := q0.frozen 1; have q0_2 := q0.cell 2; have q0_f2 := q0.frozen 2; simp only [List.set_cons_zero, List.set_cons_succ, List.getElem?_cons_zero, List.getElem?_cons_succ] at q0_0 q0_1 q0_2; have lt_q0 := q0.lt
    go_wp2_with fail
    refine (k2 _).mono ?_; rintro e w4 ⟨rfl, hb3⟩
    replace hb := hb.step hb3
    replace q0 := q0.step hb3; (try clear q0_0 q0_f0 q0_1 q0_f1 q0_2 q0_f2); have q0_0 := q0.cell 0; have q0_f0 := q0.frozen 0; have q0_1 := q0.cell 1; have q0_f1 := q0.frozen 1; have q0_2 := q0.cell 2; have q0_f2 := q0.frozen 2; simp only [List.set_cons_zero, List.set_cons_succ, List.getElem?_cons_zero, List.getElem?_cons_succ] at q0_0 q0_1 q0_2; (try clear lt_q0); have lt_q0 := q0.lt
    go_wp2_with fail
    refine (k3 _).mono ?_; rintro e w5 ⟨rfl, hb4⟩
    go_wp2_with fail
    go_ret
    exact ⟨by rw [fin.out]; rfl, hb.step hb4⟩
end Go.Proofs.Ytfgfkiifekeeaaa
