/- callboylaw13.awake answers true. -/
import Derived.Test.YthbflgaekoaigaaRef13d
namespace Go.Proofs.Ythbflgaekoaigaa
open Go.RowKit
set_option linter.unusedSimpArgs false
set_option linter.unusedVariables false

theorem aFull0 (w : World) : Calls Try.prog 17 #[.agg #[.int .i64 2, .int .i64 1], .int .i64 0] w fun e w' => e = .returned (.agg #[.int .i64 2, .int .i64 0]) ∧ Below w.heap.size w w' := (bucket_Full_any 2 1 0 w).lit (by kernel_rfl)
theorem aFull5 (w : World) : Calls Try.prog 17 #[.agg #[.int .i64 2, .int .i64 1], .int .i64 5] w fun e w' => e = .returned (.agg #[.int .i64 2, .int .i64 5]) ∧ Below w.heap.size w w' := (bucket_Full_any 2 1 5 w).lit (by kernel_rfl)
theorem aTake (w : World) : Calls Try.prog 7 #[.agg #[.int .i64 2, .int .i64 1], .agg #[.int .i64 2, .int .i64 5], .int .i64 3, .int .i64 2] w fun e w' => e = .returned (.tuple #[.agg #[.int .i64 0, .int .i64 5], .bool true]) ∧ Below w.heap.size w w' := (bucket_Take_tup 2 1 2 5 3 2 (by omega) w).lit (by kernel_rfl)
theorem aLevel (w : World) : Calls Try.prog 9 #[.agg #[.int .i64 2, .int .i64 1], .agg #[.int .i64 0, .int .i64 1], .int .i64 9] w fun e w' => e = .returned (.int .i64 2) ∧ Below w.heap.size w w' := (bucket_Level_any 2 1 0 1 9 w).lit (by kernel_rfl)
theorem aWait2 (w : World) : Calls Try.prog 11 #[.agg #[.int .i64 2, .int .i64 1], .agg #[.int .i64 0, .int .i64 1], .int .i64 1, .int .i64 2] w fun e w' => e = .returned (.int .i64 2) ∧ Below w.heap.size w w' := (bucket_Wait_any 2 1 0 1 1 2 (by omega) w).lit (by kernel_rfl)
theorem aWait3 (w : World) : Calls Try.prog 11 #[.agg #[.int .i64 2, .int .i64 1], .agg #[.int .i64 0, .int .i64 1], .int .i64 1, .int .i64 3] w fun e w' => e = .returned (.int .i64 (-1)) ∧ Below w.heap.size w w' := (bucket_Wait_any 2 1 0 1 1 3 (by omega) w).lit (by kernel_rfl)
theorem aCheck (w : World) : Calls Try.prog 15 #[.agg #[.int .i64 2, .int .i64 1]] w fun e w' => e = .returned (.int .i64 0) ∧ Below w.heap.size w w' := (bucket_Check_any 2 1 w).lit (by kernel_rfl)
theorem aCheck0 (w : World) : Calls Try.prog 15 #[.agg #[.int .i64 0, .int .i64 0]] w fun e w' => e = .returned (.int .i64 8) ∧ Below w.heap.size w w' := (bucket_Check_any 0 0 w).lit (by kernel_rfl)
theorem aFine (w : World) : Calls Try.prog 13 #[.agg #[.int .i64 2, .int .i64 1], .agg #[.int .i64 0, .int .i64 1]] w fun e w' => e = .returned (.bool true) ∧ Below w.heap.size w w' := (bucket_Fine_any 2 1 0 1 w).lit (by kernel_rfl)
theorem aFine3 (w : World) : Calls Try.prog 13 #[.agg #[.int .i64 2, .int .i64 1], .agg #[.int .i64 3, .int .i64 0]] w fun e w' => e = .returned (.bool false) ∧ Below w.heap.size w w' := (bucket_Fine_any 2 1 3 0 w).lit (by kernel_rfl)
theorem aMost (w : World) : Calls Try.prog 23 #[.agg #[.int .i64 2, .int .i64 1], .int .i64 10] w fun e w' => e = .returned (.int .i64 12) ∧ Below w.heap.size w w' := (bucket_Most_any 2 1 10 w).lit (by kernel_rfl)
theorem aSame (w : World) : Calls Try.prog 25 #[.agg #[.int .i64 2, .int .i64 1], .agg #[.int .i64 0, .int .i64 1], .agg #[.int .i64 1, .int .i64 2], .int .i64 2] w fun e w' => e = .returned (.bool true) ∧ Below w.heap.size w w' := (bucket_Same_any 2 1 0 1 1 2 2 w).lit (by kernel_rfl)
theorem aSameNo (w : World) : Calls Try.prog 25 #[.agg #[.int .i64 2, .int .i64 1], .agg #[.int .i64 0, .int .i64 1], .agg #[.int .i64 0, .int .i64 5], .int .i64 5] w fun e w' => e = .returned (.bool false) ∧ Below w.heap.size w w' := (bucket_Same_any 2 1 0 1 0 5 5 w).lit (by kernel_rfl)
theorem aRun (ad : Addr) (c : Nat) (w : World) (h : Rd w w.heap.size (some ad) [.int .i64 0, .int .i64 0, .int .i64 0, .int .i64 1]) :
    Calls Try.prog 20 #[.agg #[.int .i64 2, .int .i64 1], .agg #[.int .i64 2, .int .i64 0], .slice (some ad) 4 c] w fun e w' => ∃ B d, e = .returned (.tuple #[.agg #[.int .i64 0, .int .i64 1], .slice B 4 d]) ∧
      Rd w' w'.heap.size B [.bool true, .bool true, .bool false, .bool true] ∧ Fr w.heap.size B ∧ Below w.heap.size w w' :=
  (bucket_Run_any 2 1 2 0 (some ad) c [0, 0, 0, 1] (by decide) w h).mono fun e w' ⟨B, d, he, hr, hfr, hb⟩ => by
    have e1 : bRun 2 1 (2, 0) [0, 0, 0, 1] = ((0, 1), [true, true, false, true]) := by decide +kernel
    rw [e1] at he hr
    exact ⟨B, d, he, hr, hfr, hb⟩
theorem aSB (A B : Option Addr) (c d : Nat) (w : World) (ha : Rd w w.heap.size A [.bool true, .bool true, .bool false, .bool true]) (hb : Rd w w.heap.size B [.bool true, .bool true, .bool false, .bool true]) :
    Calls Try.prog 22 #[.slice A 4 c, .slice B 4 d] w fun e w' => e = .returned (.bool true) ∧ ∃ n, w.drewN n = w' :=
  (SameBools_any A B c d [true, true, false, true] [true, true, false, true] w (by decide) ha hb).lit (by kernel_rfl)

set_option maxRecDepth 100000 in
set_option maxHeartbeats 2000000 in
theorem awake13 (w : World) : Calls Try.prog 19 #[] w fun e w' => e = .returned (.bool true) ∧ Below w.heap.size w w' := by
  go_enter Try.func19, Try.ntmps19
  go_upto_region 2 with fail
  generalize hW : World.alloc w _ = w1
  have hb1 : Below w.heap.size w w1 := by subst hW; (repeat (first | with_reducible exact Below.refl _ _ | with_reducible assumption | with_reducible refine Below.drew ?_ | with_reducible refine Below.drewN ?_ _ | with_reducible refine Below.alloc1 ?_ _ | with_reducible refine Below.setCell1 ?_ (by first | omega | (simp; done) | (simp; omega)) _ | with_reducible refine Below.step ?_ (by with_reducible assumption)))
  have k1 : Bk w1 w.heap.size 27 [.int .i64 2, .int .i64 1] := by subst hW; (repeat (first | with_reducible exact Bk.new' _ _ _ _ (by simp; done) | with_reducible assumption | with_reducible refine Bk.alloc ?_ _ | with_reducible refine Bk.drew ?_ | with_reducible refine Bk.drewN ?_ _ | with_reducible refine Bk.step ?_ (by with_reducible assumption) | with_reducible refine Bk.far ?_ (by first | omega | (simp; done) | (simp; omega)) _))
  have l1 := k1.lt
  clear hW
  have k1_0 := k1.cell 0; have k1_f0 := k1.frozen 0; have k1_1 := k1.cell 1; have k1_f1 := k1.frozen 1; simp only [List.set_cons_zero, List.set_cons_succ, List.getElem?_cons_zero, List.getElem?_cons_succ] at k1_0 k1_1
  go_cut [2, 3] (fun p q w' => ∃ (g : Nat) (B : Option Addr) (d : Nat), p = .pointer (some ⟨g, 0, none⟩) ∧ q = .slice B 4 d ∧ Bk w' g 28 [.int .i64 0, .int .i64 1] ∧ Rd w' w'.heap.size B [.bool true, .bool true, .bool false, .bool true] ∧ w1.heap.size ≤ g ∧ Below w1.heap.size w1 w')
  case first =>
    have HS : Hid (∀ w' : World, Below (w1.heap.size) w1 w' → (w'.cell? ⟨w.heap.size, 0, none⟩ = some (.int .i64 2) ∧ w'.cell? ⟨w.heap.size, 1, none⟩ = some (.int .i64 1)) ∧ w1.heap.size ≤ w'.heap.size ∧ Below (w1.heap.size) w1 w') := fun w' hB => ⟨⟨(hB.cell (p := ⟨w.heap.size, 0, none⟩) (by dsimp only; omega)).trans (k1_0), (hB.cell (p := ⟨w.heap.size, 1, none⟩) (by dsimp only; omega)).trans (k1_1)⟩, hB.size, hB⟩; go_region_held3 (fun w' => (w'.cell? ⟨w.heap.size, 0, none⟩ = some (.int .i64 2) ∧ w'.cell? ⟨w.heap.size, 1, none⟩ = some (.int .i64 1)) ∧ w1.heap.size ≤ w'.heap.size ∧ Below (w1.heap.size) w1 w') ((go_split_ands; exact HS.out _ (by (repeat (first | with_reducible exact Below.refl _ _ | with_reducible assumption | with_reducible refine Below.drew ?_ | with_reducible refine Below.drewN ?_ _ | with_reducible refine Below.alloc ?_ (by first | omega | (simp; done) | (simp; omega)) _ | with_reducible refine Below.setCell ?_ (by first | omega | (simp; done) | (simp; omega)) _ | with_reducible refine Below.then_ ?_ (by with_reducible assumption) (by first | omega | (simp; done) | (simp; omega))))))) ((first | (go_at_call 17; with_reducible refine (aFull0 _).mono ?_; rintro e w2 ⟨rfl, hb2⟩; obtain ⟨hc_hb2, hf_hb2⟩ := bcell hb2; have hz_hb2 := hb2.size; (try simp at hz_hb2); (try have lt_w2_w1_0 : w1.heap.size < w2.heap.size := by omega); (try have lt_w2_w1_1 : w1.heap.size + 1 < w2.heap.size := by omega); (try have lt_w2_w1_2 : w1.heap.size + 1 + 1 < w2.heap.size := by omega)) | (go_at_call 20; refine (aRun _ _ _ (Bk.rd (t := 3) (by (repeat (first | with_reducible exact Bk.new' _ _ _ _ (by simp; done) | with_reducible assumption | with_reducible refine Bk.alloc ?_ _ | with_reducible refine Bk.drew ?_ | with_reducible refine Bk.drewN ?_ _ | with_reducible refine Bk.step ?_ (by with_reducible assumption) | with_reducible refine Bk.far ?_ (by first | omega | (simp; done) | (simp; omega)) _))))).mono ?_; rintro e w3 ⟨B, d, rfl, hrd, hfr, hb3⟩; obtain ⟨hc_hb3, hf_hb3⟩ := bcell hb3; have hz_hb3 := hb3.size; (try simp at hz_hb3); (try have lt_w3_w1_0 : w1.heap.size < w3.heap.size := by omega); (try have lt_w3_w1_1 : w1.heap.size + 1 < w3.heap.size := by omega); (try have lt_w3_w1_2 : w1.heap.size + 1 + 1 < w3.heap.size := by omega); (try have lt_w3_w2_0 : w2.heap.size < w3.heap.size := by omega); (try have lt_w3_w2_1 : w2.heap.size + 1 < w3.heap.size := by omega); (try have lt_w3_w2_2 : w2.heap.size + 1 + 1 < w3.heap.size := by omega))))
    all_goals (go_wp2_with fail; go_meet)
    all_goals
      refine ⟨_, _, _, rfl, rfl, ?_, by (repeat (first | with_reducible assumption | with_reducible refine Rd.alloc1 ?_ _ | with_reducible refine Rd.drew1 ?_ | with_reducible refine Rd.drewN1 ?_ _ | with_reducible refine Rd.set1 ?_ (by with_reducible assumption) (by first | omega | (simp; done) | (simp; omega)) _ | with_reducible refine Rd.step ?_ (by with_reducible assumption))), by first | omega | (simp; done) | (simp; omega), by (repeat (first | with_reducible exact Below.refl _ _ | with_reducible assumption | with_reducible refine Below.drew ?_ | with_reducible refine Below.drewN ?_ _ | with_reducible refine Below.alloc1 ?_ _ | with_reducible refine Below.setCell1 ?_ (by first | omega | (simp; done) | (simp; omega)) _ | with_reducible refine Below.step ?_ (by with_reducible assumption)))⟩
      first | (with_reducible refine Bk.new' _ _ _ _ ?_; simp; done) | (refine ((?_ : Bk w3 _ 28 [.int .i64 0, .int .i64 0]).set_ 0 _).set_ 1 _; (repeat (first | with_reducible exact Bk.new' _ _ _ _ (by simp; done) | with_reducible assumption | with_reducible refine Bk.alloc ?_ _ | with_reducible refine Bk.drew ?_ | with_reducible refine Bk.drewN ?_ _ | with_reducible refine Bk.step ?_ (by with_reducible assumption) | with_reducible refine Bk.far ?_ (by first | omega | (simp; done) | (simp; omega)) _)))
  case rest =>
    obtain ⟨g, B, d, rfl, rfl, kg, hrd, hgw, hbc⟩ := hcut
    obtain ⟨w4, rfl⟩ : ∃ w4 : World, w4 = wc := ⟨_, rfl⟩
    have kc := k1.step hbc
    have hbw : Below w.heap.size w w4 := by (repeat (first | with_reducible exact Below.refl _ _ | with_reducible assumption | with_reducible refine Below.drew ?_ | with_reducible refine Below.drewN ?_ _ | with_reducible refine Below.alloc1 ?_ _ | with_reducible refine Below.setCell1 ?_ (by first | omega | (simp; done) | (simp; omega)) _ | with_reducible refine Below.step ?_ (by with_reducible assumption)))
    have hzc := hbc.size
    have lg := kg.lt
    clear k1 k1_0 k1_1 k1_f0 k1_f1 hbc hb1
    have kc_0 := kc.cell 0; have kc_f0 := kc.frozen 0; have kc_1 := kc.cell 1; have kc_f1 := kc.frozen 1; simp only [List.set_cons_zero, List.set_cons_succ, List.getElem?_cons_zero, List.getElem?_cons_succ] at kc_0 kc_1
    have kg_0 := kg.cell 0; have kg_f0 := kg.frozen 0; have kg_1 := kg.cell 1; have kg_f1 := kg.frozen 1; simp only [List.set_cons_zero, List.set_cons_succ, List.getElem?_cons_zero, List.getElem?_cons_succ] at kg_0 kg_1
    go_upto_region 3 with fail
    go_cut [4, 5] (fun p q w' => ∃ h : Nat, p = .pointer (some ⟨h, 0, none⟩) ∧ q = .bool true ∧ Bk w' h 28 [.int .i64 0, .int .i64 5] ∧ w4.heap.size ≤ h ∧ Below w4.heap.size w4 w')
    case first =>
      have HS : Hid (∀ w' : World, Below (w4.heap.size) w4 w' → (w'.cell? ⟨w.heap.size, 0, none⟩ = some (.int .i64 2) ∧ w'.cell? ⟨w.heap.size, 1, none⟩ = some (.int .i64 1)) ∧ w4.heap.size ≤ w'.heap.size ∧ Below (w4.heap.size) w4 w') := fun w' hB => ⟨⟨(hB.cell (p := ⟨w.heap.size, 0, none⟩) (by dsimp only; omega)).trans (kc_0), (hB.cell (p := ⟨w.heap.size, 1, none⟩) (by dsimp only; omega)).trans (kc_1)⟩, hB.size, hB⟩; go_region_held3 (fun w' => (w'.cell? ⟨w.heap.size, 0, none⟩ = some (.int .i64 2) ∧ w'.cell? ⟨w.heap.size, 1, none⟩ = some (.int .i64 1)) ∧ w4.heap.size ≤ w'.heap.size ∧ Below (w4.heap.size) w4 w') ((go_split_ands; exact HS.out _ (by (repeat (first | with_reducible exact Below.refl _ _ | with_reducible assumption | with_reducible refine Below.drew ?_ | with_reducible refine Below.drewN ?_ _ | with_reducible refine Below.alloc ?_ (by first | omega | (simp; done) | (simp; omega)) _ | with_reducible refine Below.setCell ?_ (by first | omega | (simp; done) | (simp; omega)) _ | with_reducible refine Below.then_ ?_ (by with_reducible assumption) (by first | omega | (simp; done) | (simp; omega))))))) ((first | (go_at_call 17; with_reducible refine (aFull5 _).mono ?_; rintro e w2 ⟨rfl, hb2⟩; obtain ⟨hc_hb2, hf_hb2⟩ := bcell hb2; have hz_hb2 := hb2.size; (try simp at hz_hb2); (try have lt_w2_w4_0 : w4.heap.size < w2.heap.size := by omega); (try have lt_w2_w4_1 : w4.heap.size + 1 < w2.heap.size := by omega); (try have lt_w2_w4_2 : w4.heap.size + 1 + 1 < w2.heap.size := by omega)) | (go_at_call 7; with_reducible refine (aTake _).mono ?_; rintro e w3 ⟨rfl, hb3⟩; obtain ⟨hc_hb3, hf_hb3⟩ := bcell hb3; have hz_hb3 := hb3.size; (try simp at hz_hb3); (try have lt_w3_w4_0 : w4.heap.size < w3.heap.size := by omega); (try have lt_w3_w4_1 : w4.heap.size + 1 < w3.heap.size := by omega); (try have lt_w3_w4_2 : w4.heap.size + 1 + 1 < w3.heap.size := by omega); (try have lt_w3_w2_0 : w2.heap.size < w3.heap.size := by omega); (try have lt_w3_w2_1 : w2.heap.size + 1 < w3.heap.size := by omega); (try have lt_w3_w2_2 : w2.heap.size + 1 + 1 < w3.heap.size := by omega))))
      all_goals (go_wp2_with fail; go_meet)
      all_goals
        refine ⟨_, rfl, rfl, ?_, by first | omega | (simp; done) | (simp; omega), by (repeat (first | with_reducible exact Below.refl _ _ | with_reducible assumption | with_reducible refine Below.drew ?_ | with_reducible refine Below.drewN ?_ _ | with_reducible refine Below.alloc1 ?_ _ | with_reducible refine Below.setCell1 ?_ (by first | omega | (simp; done) | (simp; omega)) _ | with_reducible refine Below.step ?_ (by with_reducible assumption)))⟩
        first | (with_reducible refine Bk.new' _ _ _ _ ?_; simp; done) | (refine ((?_ : Bk w3 _ 28 [.int .i64 0, .int .i64 0]).set_ 0 _).set_ 1 _; (repeat (first | with_reducible exact Bk.new' _ _ _ _ (by simp; done) | with_reducible assumption | with_reducible refine Bk.alloc ?_ _ | with_reducible refine Bk.drew ?_ | with_reducible refine Bk.drewN ?_ _ | with_reducible refine Bk.step ?_ (by with_reducible assumption) | with_reducible refine Bk.far ?_ (by first | omega | (simp; done) | (simp; omega)) _)))
    case rest =>
      obtain ⟨h, rfl, rfl, kh, hhw, hbc⟩ := hcut
      have lc4 := kc.lt
      have lh := kh.lt
      have jc := kc.step hbc
      have jg := kg.step hbc
      have hrd2 := hrd.step hbc
      have hbw2 : Below w.heap.size w wc := by (repeat (first | with_reducible exact Below.refl _ _ | with_reducible assumption | with_reducible refine Below.drew ?_ | with_reducible refine Below.drewN ?_ _ | with_reducible refine Below.alloc1 ?_ _ | with_reducible refine Below.setCell1 ?_ (by first | omega | (simp; done) | (simp; omega)) _ | with_reducible refine Below.step ?_ (by with_reducible assumption)))
      have hzc2 := hbc.size
      clear kc kg kc_0 kc_1 kc_f0 kc_f1 kg_0 kg_1 kg_f0 kg_f1 hbc hbw hrd
      have jc_0 := jc.cell 0; have jc_f0 := jc.frozen 0; have jc_1 := jc.cell 1; have jc_f1 := jc.frozen 1; simp only [List.set_cons_zero, List.set_cons_succ, List.getElem?_cons_zero, List.getElem?_cons_succ] at jc_0 jc_1
      have jg_0 := jg.cell 0; have jg_f0 := jg.frozen 0; have jg_1 := jg.cell 1; have jg_f1 := jg.frozen 1; simp only [List.set_cons_zero, List.set_cons_succ, List.getElem?_cons_zero, List.getElem?_cons_succ] at jg_0 jg_1
      have kh_0 := kh.cell 0; have kh_f0 := kh.frozen 0; have kh_1 := kh.cell 1; have kh_f1 := kh.frozen 1; simp only [List.set_cons_zero, List.set_cons_succ, List.getElem?_cons_zero, List.getElem?_cons_succ] at kh_0 kh_1
      have l3 : w.heap.size < wc.heap.size ∧ g < wc.heap.size ∧ h < wc.heap.size := by omega
      go_wp2_with fail
      have hb := hbw2
      refine (aSB _ _ _ _ _ (hrd2.alloc1 _) ((Bk.new _ _ _).rd)).mono ?_; rintro e w6 ⟨rfl, n, rfl⟩
      replace hb := (hb.alloc1 (.cells #[.bool true, .bool true, .bool false, .bool true] 4)).drewN n
      have l6 : w.heap.size < wc.heap.size + 1 ∧ g < wc.heap.size + 1 ∧ h < wc.heap.size + 1 := by omega
      go_wp2_with fail
      with_reducible refine (aLevel _).mono ?_; rintro e x0 ⟨rfl, hbx⟩; obtain ⟨hc_hbx, hf_hbx⟩ := bcell hbx; have hz_hbx := hbx.size; (try simp at hz_hbx); (have lx0 : w.heap.size < x0.heap.size ∧ g < x0.heap.size ∧ h < x0.heap.size := by omega); replace hb := hb.step hbx
      go_wp2_with fail
      with_reducible refine (aWait2 _).mono ?_; rintro e x1 ⟨rfl, hbx⟩; obtain ⟨hc_hbx, hf_hbx⟩ := bcell hbx; have hz_hbx := hbx.size; (try simp at hz_hbx); (have lx1 : w.heap.size < x1.heap.size ∧ g < x1.heap.size ∧ h < x1.heap.size := by omega); replace hb := hb.step hbx
      go_wp2_with fail
      with_reducible refine (aWait3 _).mono ?_; rintro e x2 ⟨rfl, hbx⟩; obtain ⟨hc_hbx, hf_hbx⟩ := bcell hbx; have hz_hbx := hbx.size; (try simp at hz_hbx); (have lx2 : w.heap.size < x2.heap.size ∧ g < x2.heap.size ∧ h < x2.heap.size := by omega); replace hb := hb.step hbx
      go_wp2_with fail
      with_reducible refine (aCheck _).mono ?_; rintro e x3 ⟨rfl, hbx⟩; obtain ⟨hc_hbx, hf_hbx⟩ := bcell hbx; have hz_hbx := hbx.size; (try simp at hz_hbx); (have lx3 : w.heap.size < x3.heap.size ∧ g < x3.heap.size ∧ h < x3.heap.size := by omega); replace hb := hb.step hbx
      go_wp2_with fail
      with_reducible refine (aCheck0 _).mono ?_; rintro e x4 ⟨rfl, hbx⟩; obtain ⟨hc_hbx, hf_hbx⟩ := bcell hbx; have hz_hbx := hbx.size; (try simp at hz_hbx); (have lx4 : w.heap.size < x4.heap.size ∧ g < x4.heap.size ∧ h < x4.heap.size := by omega); replace hb := hb.step hbx
      go_wp2_with fail
      with_reducible refine (aFine _).mono ?_; rintro e x5 ⟨rfl, hbx⟩; obtain ⟨hc_hbx, hf_hbx⟩ := bcell hbx; have hz_hbx := hbx.size; (try simp at hz_hbx); (have lx5 : w.heap.size < x5.heap.size ∧ g < x5.heap.size ∧ h < x5.heap.size := by omega); replace hb := hb.step hbx
      go_wp2_with fail
      with_reducible refine (aFine3 _).mono ?_; rintro e x6 ⟨rfl, hbx⟩; obtain ⟨hc_hbx, hf_hbx⟩ := bcell hbx; have hz_hbx := hbx.size; (try simp at hz_hbx); (have lx6 : w.heap.size < x6.heap.size ∧ g < x6.heap.size ∧ h < x6.heap.size := by omega); replace hb := hb.step hbx
      go_wp2_with fail
      with_reducible refine (aMost _).mono ?_; rintro e x7 ⟨rfl, hbx⟩; obtain ⟨hc_hbx, hf_hbx⟩ := bcell hbx; have hz_hbx := hbx.size; (try simp at hz_hbx); (have lx7 : w.heap.size < x7.heap.size ∧ g < x7.heap.size ∧ h < x7.heap.size := by omega); replace hb := hb.step hbx
      go_wp2_with fail
      with_reducible refine (aSame _).mono ?_; rintro e x8 ⟨rfl, hbx⟩; obtain ⟨hc_hbx, hf_hbx⟩ := bcell hbx; have hz_hbx := hbx.size; (try simp at hz_hbx); (have lx8 : w.heap.size < x8.heap.size ∧ g < x8.heap.size ∧ h < x8.heap.size := by omega); replace hb := hb.step hbx
      go_wp2_with fail
      with_reducible refine (aSameNo _).mono ?_; rintro e x9 ⟨rfl, hbx⟩; obtain ⟨hc_hbx, hf_hbx⟩ := bcell hbx; have hz_hbx := hbx.size; (try simp at hz_hbx); (have lx9 : w.heap.size < x9.heap.size ∧ g < x9.heap.size ∧ h < x9.heap.size := by omega); replace hb := hb.step hbx
      go_wp2_with fail
      go_ret
      exact ⟨rfl, hb⟩
end Go.Proofs.Ythbflgaekoaigaa
