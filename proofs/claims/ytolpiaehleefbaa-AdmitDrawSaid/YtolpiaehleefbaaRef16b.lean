/- Contracts of the reference of chapter 16, further: Step. -/
import Derived.Test.YtolpiaehleefbaaRef16
namespace Go.Proofs.Ytolpiaehleefbaa
open Go.RowKit
set_option linter.unusedSimpArgs false
set_option linter.unusedVariables false

theorem r16_Step_no {up dn : Nat → Int} {hold l s v : Int} (h : vMay up dn hold l s v = false) (load now : Int) (w : World) :
    Calls Try.prog 52 #[lcV up dn hold, lsV l s v, .int .i64 load, .int .i64 now] w fun e w' => e = .returned (lsV l s v) ∧ Below w.heap.size w w' := by
  have hv := vCheck_cases up dn hold
  by_cases h0 : vCheck up dn hold = 0
  · have hf : vFine l s v = false := by simpa [vMay, h0] using h
    have H0 := hide h0
    clear h0 h hv
    go_enter Try.func52, Try.ntmps52
    go_wp2_with fail
    refine (r16_Check_is H0.out _).mono ?_; rintro e w1 ⟨rfl, hb1⟩; obtain ⟨hc_hb1, hf_hb1⟩ := bcell hb1; have hz_hb1 := hb1.size; (try simp at hz_hb1)
    have lw : w.heap.size < w1.heap.size ∧ w.heap.size + 1 < w1.heap.size ∧ w.heap.size + 1 + 1 < w1.heap.size := by omega
    go_wp2_with fail
    refine (r16_Fine_is hf _).mono ?_; rintro e w2 ⟨rfl, hb2⟩; obtain ⟨hc_hb2, hf_hb2⟩ := bcell hb2; have hz_hb2 := hb2.size; (try simp at hz_hb2)
    have lw2 : w.heap.size < w2.heap.size ∧ w.heap.size + 1 < w2.heap.size ∧ w.heap.size + 1 + 1 < w2.heap.size := by omega
    go_wp2_with fail
    exact bodyPost_ret (v := lsV l s v) (by skip; simp only [results, Try.results52]; go_simp) rfl ⟨rfl, by (repeat (first | with_reducible exact Below.refl _ _ | with_reducible assumption | with_reducible refine Below.drew ?_ | with_reducible refine Below.drewN ?_ _ | with_reducible refine Below.alloc1 ?_ _ | with_reducible refine Below.setCell1 ?_ (by first | omega | (simp; done) | (simp; omega)) _ | with_reducible refine Below.step ?_ (by with_reducible assumption)))⟩
  · have hv' : vCheck up dn hold = 8 ∨ vCheck up dn hold = 10 := by omega
    clear h0 h hv
    rcases hv' with h1 | h1
    all_goals
      have H1 := hide h1
      clear h1
      go_enter Try.func52, Try.ntmps52
      go_wp2_with fail
      refine (r16_Check_is H1.out _).mono ?_; rintro e w1 ⟨rfl, hb1⟩; obtain ⟨hc_hb1, hf_hb1⟩ := bcell hb1; have hz_hb1 := hb1.size; (try simp at hz_hb1)
      have lw : w.heap.size < w1.heap.size ∧ w.heap.size + 1 < w1.heap.size ∧ w.heap.size + 1 + 1 < w1.heap.size := by omega
      go_wp2_with fail
      exact bodyPost_ret (v := lsV l s v) (by skip; simp only [results, Try.results52]; go_simp) rfl ⟨rfl, by (repeat (first | with_reducible exact Below.refl _ _ | with_reducible assumption | with_reducible refine Below.drew ?_ | with_reducible refine Below.drewN ?_ _ | with_reducible refine Below.alloc1 ?_ _ | with_reducible refine Below.setCell1 ?_ (by first | omega | (simp; done) | (simp; omega)) _ | with_reducible refine Below.step ?_ (by with_reducible assumption)))⟩

set_option maxHeartbeats 16000000 in
theorem r16_Step_yes {up dn : Nat → Int} {hold s v : Int} {l : Nat} (h0 : vCheck up dn hold = 0) (hf : vFine l s v = true) (load now : Int) (w : World) :
    Calls Try.prog 52 #[lcV up dn hold, lsV l s v, .int .i64 load, .int .i64 now] w fun e w' =>
      e = .returned (lsV (vStep1 up dn hold l s v (vHeld load 0 100) (vHeld now (max s v) 1099511627776)).1 (vStep1 up dn hold l s v (vHeld load 0 100) (vHeld now (max s v) 1099511627776)).2.1 (vStep1 up dn hold l s v (vHeld load 0 100) (vHeld now (max s v) 1099511627776)).2.2) ∧ Below w.heap.size w w' := by
  have hfb := vFine_t hf
  have hcb := vCheck_t h0
  have hnb := vHeld_bd (n := now) (a := max s v) (b := 1099511627776) (by omega)
  have hlb := vHeld_bd (n := load) (a := 0) (b := 100) (by omega)
  have hab := vAsked_le up (vHeld load 0 100) l
  have hlv := fun k (hk : k < 3) => vLoads_of hcb.1.1 hk
  have hho := hcb.1.2
  have HLV := hide hlv
  have HST : Hid (∀ load now : Int, vStep1 up dn hold l s v load now = if l < vAsked up load l then (↑(vAsked up load l), now, -1)
    else if l = 0 ∨ dn (l - 1) ≤ load then (↑l, s, -1) else if now - (if v = -1 then now else v) < hold then (↑l, s, if v = -1 then now else v) else ((l : Int) - 1, now, -1)) := fun _ _ => rfl
  have H0 := hide h0
  have HF := hide hf
  have hA : ∀ {a : Nat}, vAsked up (vHeld load 0 100) l = a → Hid (vAsked up (vHeld load 0 100) l = a) := fun h => h
  obtain ⟨A, hAe⟩ : ∃ A, vAsked up (vHeld load 0 100) l = A := ⟨_, rfl⟩
  have HA := hide hAe
  rw [hAe] at hab
  obtain ⟨LD, hLD⟩ : ∃ x, vHeld load 0 100 = x := ⟨_, rfl⟩
  obtain ⟨NW, hNW⟩ : ∃ x, vHeld now (max s v) 1099511627776 = x := ⟨_, rfl⟩
  rw [hLD] at hlb HA
  rw [hNW] at hnb
  rw [hLD, hNW]
  have HLD := hide hLD
  have HNW := hide hNW
  have hlA : l ≤ A ∧ A ≤ 3 := ⟨hab.1, hab.2 (by omega)⟩
  have hl3 : l ≤ 3 := by omega
  clear h0 hf hcb hlv hA hAe hLD hNW hab
  rcases Int.lt_or_le s v with hsv | hsv
  · have HH : Hid (∀ w, Calls Try.prog 92 #[.int .i64 now, .int .i64 v, .int .i64 1099511627776] w fun e w' => e = .returned (.int .i64 NW) ∧ w = w') := fun w => (r16_held_any _ _ _ (by omega) w).lit (by rw [← HNW.out]; congr 2; omega)
    have HH0 : Hid (∀ w, Calls Try.prog 92 #[.int .i64 load, .int .i64 0, .int .i64 100] w fun e w' => e = .returned (.int .i64 LD) ∧ w = w') := fun w => (r16_held_any _ _ _ (by omega) w).lit (by rw [HLD.out])
    generalize hXS : vStep1 up dn hold l s v LD NW = X
    have HX : Hid (X = if l < A then (↑A, NW, -1) else if l = 0 ∨ dn (l - 1) ≤ LD then (↑l, s, -1) else if NW - (if v = -1 then NW else v) < hold then (↑l, s, if v = -1 then NW else v) else ((l : Int) - 1, NW, -1)) := by
      rw [← hXS]; have h := HST.out LD NW; rw [HA.out] at h; exact h
    clear hXS
    go_enter Try.func52, Try.ntmps52
    go_wp2_with fail
    generalize hV : World.alloc (World.alloc (World.alloc w _) _) _ = w0
    have hb0 : Below w.heap.size w w0 := by subst hV; (repeat (first | with_reducible exact Below.refl _ _ | with_reducible assumption | with_reducible refine Below.drew ?_ | with_reducible refine Below.drewN ?_ _ | with_reducible refine Below.alloc1 ?_ _ | with_reducible refine Below.setCell1 ?_ (by first | omega | (simp; done) | (simp; omega)) _ | with_reducible refine Below.step ?_ (by with_reducible assumption)))
    have q0 : Bk w0 w.heap.size 26 (lcC up dn hold) := by subst hV; (repeat (first | with_reducible exact Bk.new' _ _ _ _ (by simp; done) | with_reducible assumption | with_reducible refine Bk.alloc ?_ _ | with_reducible refine Bk.drew ?_ | with_reducible refine Bk.drewN ?_ _ | with_reducible refine Bk.step ?_ (by with_reducible assumption) | with_reducible refine Bk.far ?_ (by first | omega | (simp; done) | (simp; omega)) _))
    have q1 : Bk w0 (w.heap.size + 1) 36 (lsC l s v) := by subst hV; (repeat (first | with_reducible exact Bk.new' _ _ _ _ (by simp; done) | with_reducible assumption | with_reducible refine Bk.alloc ?_ _ | with_reducible refine Bk.drew ?_ | with_reducible refine Bk.drewN ?_ _ | with_reducible refine Bk.step ?_ (by with_reducible assumption) | with_reducible refine Bk.far ?_ (by first | omega | (simp; done) | (simp; omega)) _))
    have q2 : Bk w0 (w.heap.size + 1 + 1) 36 (lsC 0 0 0) := by subst hV; (repeat (first | with_reducible exact Bk.new' _ _ _ _ (by simp; done) | with_reducible assumption | with_reducible refine Bk.alloc ?_ _ | with_reducible refine Bk.drew ?_ | with_reducible refine Bk.drewN ?_ _ | with_reducible refine Bk.step ?_ (by with_reducible assumption) | with_reducible refine Bk.far ?_ (by first | omega | (simp; done) | (simp; omega)) _))
    clear hV
    refine (r16_Check_is H0.out _).mono ?_; rintro e w1 ⟨rfl, hb1⟩
    replace q0 := q0.step hb1
    replace q1 := q1.step hb1
    replace q2 := q2.step hb1
    replace hb0 : Below w.heap.size w w1 := by (repeat (first | with_reducible exact Below.refl _ _ | with_reducible assumption | with_reducible refine Below.drew ?_ | with_reducible refine Below.drewN ?_ _ | with_reducible refine Below.alloc1 ?_ _ | with_reducible refine Below.setCell1 ?_ (by first | omega | (simp; done) | (simp; omega)) _ | with_reducible refine Below.step ?_ (by with_reducible assumption)))
    clear hb1
    have q1_0 := q1.cell 0; have q1_f0 := q1.frozen 0; have q1_1 := q1.cell 1; have q1_f1 := q1.frozen 1; have q1_2 := q1.cell 2; have q1_f2 := q1.frozen 2; simp only [List.set_cons_zero, List.set_cons_succ, List.getElem?_cons_zero, List.getElem?_cons_succ] at q1_0 q1_1 q1_2
    have lw := And.intro q0.lt (And.intro q1.lt q2.lt)
    go_wp2_with fail
    refine (r16_Fine_is HF.out _).mono ?_; rintro e w2 ⟨rfl, hb2⟩
    replace q0 := q0.step hb2
    replace q1 := q1.step hb2
    replace q2 := q2.step hb2
    replace hb0 : Below w.heap.size w w2 := by (repeat (first | with_reducible exact Below.refl _ _ | with_reducible assumption | with_reducible refine Below.drew ?_ | with_reducible refine Below.drewN ?_ _ | with_reducible refine Below.alloc1 ?_ _ | with_reducible refine Below.setCell1 ?_ (by first | omega | (simp; done) | (simp; omega)) _ | with_reducible refine Below.step ?_ (by with_reducible assumption)))
    clear hb2 q1_0 q1_1 q1_2 q1_f0 q1_f1 q1_f2 lw
    have q1_0 := q1.cell 0; have q1_f0 := q1.frozen 0; have q1_1 := q1.cell 1; have q1_f1 := q1.frozen 1; have q1_2 := q1.cell 2; have q1_f2 := q1.frozen 2; simp only [List.set_cons_zero, List.set_cons_succ, List.getElem?_cons_zero, List.getElem?_cons_succ] at q1_0 q1_1 q1_2
    have lw := And.intro q0.lt (And.intro q1.lt q2.lt)
    go_wp2_with fail
    refine (HH0.out _).mono ?_; rintro e w' ⟨rfl, rfl⟩
    go_wp2_with fail
    refine (HH.out _).mono ?_; rintro e w' ⟨rfl, rfl⟩
    go_wp2_with fail
    clear q1_0 q1_1 q1_2 q1_f0 q1_f1 q1_f2 lw
    go_loopw [9] (fun o wr => ∃ (k : Nat) (s' v' : Int), k ≤ 3 ∧ Hid (A = vAsked up LD k) ∧ (k = l ∧ s' = s ∧ v' = v ∧ o = .bool false ∨ l < k ∧ s' = NW ∧ v' = -1 ∧ o = .bool true) ∧ Bk wr w.heap.size 26 (lcC up dn hold) ∧ Bk wr (w.heap.size + 1) 36 (lsC k s' v') ∧ Bk wr (w.heap.size + 1 + 1) 36 (lsC 0 0 0) ∧ Below w.heap.size w wr) (fun _ wr => match wr.cell? ⟨w.heap.size + 1, 0, none⟩ with | some (.int _ n) => 3 - n.toNat | _ => 0)
    case atStart => exact ⟨l, s, v, hl3, HA.out.symm, .inl ⟨rfl, rfl, rfl, rfl⟩, q0, q1, q2, hb0⟩
    case round =>
      obtain ⟨k, s', v', hk, hak, hor, j0, j1, j2, hbr⟩ := hrel
      clear q0 q1 q2 hb0
      have lj := And.intro j0.lt (And.intro j1.lt j2.lt)
      by_cases hlt : k < 3
      · have cu := up_cell j0 hlt
        by_cases hu : up k ≤ LD
        · have hak' : Hid (A = vAsked up LD (k + 1)) := by show _ = _; rw [hak.out]; exact vAsked_step hlt hu
          have hlk : l < k + 1 := by rcases hor with h | h <;> omega
          have HOR := hide hor
          clear hor
          have cm := j1.cell 0
          have j1_0 := j1.cell 0; have j1_f0 := j1.frozen 0; have j1_1 := j1.cell 1; have j1_f1 := j1.frozen 1; have j1_2 := j1.cell 2; have j1_f2 := j1.frozen 2; simp only [List.set_cons_zero, List.set_cons_succ, List.getElem?_cons_zero, List.getElem?_cons_succ] at j1_0 j1_1 j1_2
          have j2_0 := j2.cell 0; have j2_f0 := j2.frozen 0; have j2_1 := j2.cell 1; have j2_f1 := j2.frozen 1; have j2_2 := j2.cell 2; have j2_f2 := j2.frozen 2; simp only [List.set_cons_zero, List.set_cons_succ, List.getElem?_cons_zero, List.getElem?_cons_succ] at j2_0 j2_1 j2_2
          go_wp2_with fail
          have p1 := ((j1.set_ 0 (.int .i64 ((k : Int) + 1))).set_ 1 (.int .i64 NW)).set_ 2 (.int .i64 (-1))
          simp only [List.set_cons_zero, List.set_cons_succ] at p1
          have pm := p1.cell 0
          go_roundw
          case rel => exact ⟨k + 1, NW, -1, by omega, hak', .inr ⟨hlk, rfl, rfl, rfl⟩, ((j0.far (by dsimp only; omega) _).far (by dsimp only; omega) _).far (by dsimp only; omega) _, p1, ((j2.far (by dsimp only; omega) _).far (by dsimp only; omega) _).far (by dsimp only; omega) _, ((hbr.setCell (by dsimp only; omega) _).setCell (by dsimp only; omega) _).setCell (by dsimp only; omega) _⟩
          case measure => rw [pm, cm]; simp; omega
        · have hak' : Hid (A = k) := by show _ = _; rw [hak.out]; exact vAsked_stop (by omega)
          replace hu : LD < up k := by omega
          rcases hor with ⟨rfl, rfl, rfl, rfl⟩ | ⟨hlk, rfl, rfl, rfl⟩
          · have hAk := hak'.out
            have c1 : ¬ k < A := by omega
            have HAk := hide hAk
            clear hAk
            have j1_0 := j1.cell 0; have j1_f0 := j1.frozen 0; have j1_1 := j1.cell 1; have j1_f1 := j1.frozen 1; have j1_2 := j1.cell 2; have j1_f2 := j1.frozen 2; simp only [List.set_cons_zero, List.set_cons_succ, List.getElem?_cons_zero, List.getElem?_cons_succ] at j1_0 j1_1 j1_2
            have j2_0 := j2.cell 0; have j2_f0 := j2.frozen 0; have j2_1 := j2.cell 1; have j2_f1 := j2.frozen 1; have j2_2 := j2.cell 2; have j2_f2 := j2.frozen 2; simp only [List.set_cons_zero, List.set_cons_succ, List.getElem?_cons_zero, List.getElem?_cons_succ] at j2_0 j2_1 j2_2
            rcases Nat.eq_zero_or_pos k with hl0 | hl0
            · subst hl0
              have HX0 : Hid (X = (0, s', -1)) := by
                show _ = _
                rw [HX.out, if_neg c1, if_pos (Or.inl rfl)]; rfl
              have j00 : wr.cell? ⟨w.heap.size + 1, 0, none⟩ = some (.int .i64 0) := j1_0
              clear c1 j1_0
              go_wp2_with fail
              exact bodyPost_ret (v := lsV X.1 X.2.1 X.2.2) (by rw [HX0.out]; simp only [results, Try.results52]; go_simp) rfl ⟨rfl, by (repeat (first | with_reducible exact Below.refl _ _ | with_reducible assumption | with_reducible refine Below.drew ?_ | with_reducible refine Below.drewN ?_ _ | with_reducible refine Below.alloc1 ?_ _ | with_reducible refine Below.setCell1 ?_ (by first | omega | (simp; done) | (simp; omega)) _ | with_reducible refine Below.step ?_ (by with_reducible assumption)))⟩
            · obtain ⟨i, rfl⟩ : ∃ i, k = i + 1 := ⟨k - 1, by omega⟩
              have hk3 : i < 3 := by omega
              have hd := HLV.out i hk3
              have hz : ((i : Int) + 1 == 0) = false := by rw [beq_eq_false_iff_ne]; omega
              have dc := dn_cell j0 hk3
              have c6 := j0.cell 6
              simp only [List.getElem?_cons_zero, List.getElem?_cons_succ] at c6
              have HX2 : Hid (X = if dn i ≤ LD then (((i + 1 : Nat) : Int), s', -1) else if NW - (if v' = -1 then NW else v') < hold then (((i + 1 : Nat) : Int), s', if v' = -1 then NW else v') else (((i + 1 : Nat) : Int) - 1, NW, -1)) := by
                show _ = _
                rw [HX.out, if_neg c1]
                simp only [Nat.add_sub_cancel, show (i + 1 = 0) = False by simp, false_or]
              clear c1
              by_cases c2 : dn i ≤ LD
              · go_wp2_with fail
                exact bodyPost_ret (v := lsV X.1 X.2.1 X.2.2) (by rw [HX2.out, if_pos c2]; simp only [results, Try.results52]; go_simp) rfl ⟨rfl, by (repeat (first | with_reducible exact Below.refl _ _ | with_reducible assumption | with_reducible refine Below.drew ?_ | with_reducible refine Below.drewN ?_ _ | with_reducible refine Below.alloc1 ?_ _ | with_reducible refine Below.setCell1 ?_ (by first | omega | (simp; done) | (simp; omega)) _ | with_reducible refine Below.step ?_ (by with_reducible assumption)))⟩
              · have HX3 : Hid (X = if NW - (if v' = -1 then NW else v') < hold then (((i + 1 : Nat) : Int), s', if v' = -1 then NW else v') else (((i + 1 : Nat) : Int) - 1, NW, -1)) := by rw [HX2.out, if_neg c2]; exact rfl
                replace c2 : LD < dn i := by omega
                by_cases c3 : v' = -1
                · exfalso; omega
                · have HX4 : Hid (X = if NW - v' < hold then (((i + 1 : Nat) : Int), s', v') else (((i + 1 : Nat) : Int) - 1, NW, -1)) := by rw [HX3.out, if_neg c3]; exact rfl
                  replace c3 : 0 ≤ v' := by omega
                  by_cases c4 : NW - v' < hold
                  · go_wp2_with fail
                    exact bodyPost_ret (v := lsV X.1 X.2.1 X.2.2) (by rw [HX4.out, if_pos c4]; simp only [results, Try.results52]; go_simp) rfl ⟨rfl, by (repeat (first | with_reducible exact Below.refl _ _ | with_reducible assumption | with_reducible refine Below.drew ?_ | with_reducible refine Below.drewN ?_ _ | with_reducible refine Below.alloc1 ?_ _ | with_reducible refine Below.setCell1 ?_ (by first | omega | (simp; done) | (simp; omega)) _ | with_reducible refine Below.step ?_ (by with_reducible assumption)))⟩
                  · replace c4 : hold ≤ NW - v' := by omega
                    go_wp2_with fail
                    exact bodyPost_ret (v := lsV X.1 X.2.1 X.2.2) (by rw [HX4.out, if_neg (by omega)]; simp only [results, Try.results52]; go_simp) rfl ⟨rfl, by (repeat (first | with_reducible exact Below.refl _ _ | with_reducible assumption | with_reducible refine Below.drew ?_ | with_reducible refine Below.drewN ?_ _ | with_reducible refine Below.alloc1 ?_ _ | with_reducible refine Below.setCell1 ?_ (by first | omega | (simp; done) | (simp; omega)) _ | with_reducible refine Below.step ?_ (by with_reducible assumption)))⟩
          · have HXA : Hid (X = ((k : Int), s', -1)) := by
              show _ = _
              rw [HX.out, hak'.out, if_pos hlk]
            have j1_0 := j1.cell 0; have j1_f0 := j1.frozen 0; have j1_1 := j1.cell 1; have j1_f1 := j1.frozen 1; have j1_2 := j1.cell 2; have j1_f2 := j1.frozen 2; simp only [List.set_cons_zero, List.set_cons_succ, List.getElem?_cons_zero, List.getElem?_cons_succ] at j1_0 j1_1 j1_2
            have j2_0 := j2.cell 0; have j2_f0 := j2.frozen 0; have j2_1 := j2.cell 1; have j2_f1 := j2.frozen 1; have j2_2 := j2.cell 2; have j2_f2 := j2.frozen 2; simp only [List.set_cons_zero, List.set_cons_succ, List.getElem?_cons_zero, List.getElem?_cons_succ] at j2_0 j2_1 j2_2
            go_wp2_with fail
            exact bodyPost_ret (v := lsV X.1 X.2.1 X.2.2) (by rw [HXA.out]; simp only [results, Try.results52]; go_simp) rfl ⟨rfl, by (repeat (first | with_reducible exact Below.refl _ _ | with_reducible assumption | with_reducible refine Below.drew ?_ | with_reducible refine Below.drewN ?_ _ | with_reducible refine Below.alloc1 ?_ _ | with_reducible refine Below.setCell1 ?_ (by first | omega | (simp; done) | (simp; omega)) _ | with_reducible refine Below.step ?_ (by with_reducible assumption)))⟩
      · have hak' : Hid (A = k) := by show _ = _; rw [hak.out]; exact vAsked_top (by omega)
        rcases hor with ⟨rfl, rfl, rfl, rfl⟩ | ⟨hlk, rfl, rfl, rfl⟩
        · have hAk := hak'.out
          have c1 : ¬ k < A := by omega
          have HAk := hide hAk
          clear hAk
          have j1_0 := j1.cell 0; have j1_f0 := j1.frozen 0; have j1_1 := j1.cell 1; have j1_f1 := j1.frozen 1; have j1_2 := j1.cell 2; have j1_f2 := j1.frozen 2; simp only [List.set_cons_zero, List.set_cons_succ, List.getElem?_cons_zero, List.getElem?_cons_succ] at j1_0 j1_1 j1_2
          have j2_0 := j2.cell 0; have j2_f0 := j2.frozen 0; have j2_1 := j2.cell 1; have j2_f1 := j2.frozen 1; have j2_2 := j2.cell 2; have j2_f2 := j2.frozen 2; simp only [List.set_cons_zero, List.set_cons_succ, List.getElem?_cons_zero, List.getElem?_cons_succ] at j2_0 j2_1 j2_2
          rcases Nat.eq_zero_or_pos k with hl0 | hl0
          · exfalso; omega
          · obtain ⟨i, rfl⟩ : ∃ i, k = i + 1 := ⟨k - 1, by omega⟩
            have hk3 : i < 3 := by omega
            have hd := HLV.out i hk3
            have hz : ((i : Int) + 1 == 0) = false := by rw [beq_eq_false_iff_ne]; omega
            have dc := dn_cell j0 hk3
            have c6 := j0.cell 6
            simp only [List.getElem?_cons_zero, List.getElem?_cons_succ] at c6
            have HX2 : Hid (X = if dn i ≤ LD then (((i + 1 : Nat) : Int), s', -1) else if NW - (if v' = -1 then NW else v') < hold then (((i + 1 : Nat) : Int), s', if v' = -1 then NW else v') else (((i + 1 : Nat) : Int) - 1, NW, -1)) := by
              show _ = _
              rw [HX.out, if_neg c1]
              simp only [Nat.add_sub_cancel, show (i + 1 = 0) = False by simp, false_or]
            clear c1
            by_cases c2 : dn i ≤ LD
            · go_wp2_with fail
              exact bodyPost_ret (v := lsV X.1 X.2.1 X.2.2) (by rw [HX2.out, if_pos c2]; simp only [results, Try.results52]; go_simp) rfl ⟨rfl, by (repeat (first | with_reducible exact Below.refl _ _ | with_reducible assumption | with_reducible refine Below.drew ?_ | with_reducible refine Below.drewN ?_ _ | with_reducible refine Below.alloc1 ?_ _ | with_reducible refine Below.setCell1 ?_ (by first | omega | (simp; done) | (simp; omega)) _ | with_reducible refine Below.step ?_ (by with_reducible assumption)))⟩
            · have HX3 : Hid (X = if NW - (if v' = -1 then NW else v') < hold then (((i + 1 : Nat) : Int), s', if v' = -1 then NW else v') else (((i + 1 : Nat) : Int) - 1, NW, -1)) := by rw [HX2.out, if_neg c2]; exact rfl
              replace c2 : LD < dn i := by omega
              by_cases c3 : v' = -1
              · exfalso; omega
              · have HX4 : Hid (X = if NW - v' < hold then (((i + 1 : Nat) : Int), s', v') else (((i + 1 : Nat) : Int) - 1, NW, -1)) := by rw [HX3.out, if_neg c3]; exact rfl
                replace c3 : 0 ≤ v' := by omega
                by_cases c4 : NW - v' < hold
                · go_wp2_with fail
                  exact bodyPost_ret (v := lsV X.1 X.2.1 X.2.2) (by rw [HX4.out, if_pos c4]; simp only [results, Try.results52]; go_simp) rfl ⟨rfl, by (repeat (first | with_reducible exact Below.refl _ _ | with_reducible assumption | with_reducible refine Below.drew ?_ | with_reducible refine Below.drewN ?_ _ | with_reducible refine Below.alloc1 ?_ _ | with_reducible refine Below.setCell1 ?_ (by first | omega | (simp; done) | (simp; omega)) _ | with_reducible refine Below.step ?_ (by with_reducible assumption)))⟩
                · replace c4 : hold ≤ NW - v' := by omega
                  go_wp2_with fail
                  exact bodyPost_ret (v := lsV X.1 X.2.1 X.2.2) (by rw [HX4.out, if_neg (by omega)]; simp only [results, Try.results52]; go_simp) rfl ⟨rfl, by (repeat (first | with_reducible exact Below.refl _ _ | with_reducible assumption | with_reducible refine Below.drew ?_ | with_reducible refine Below.drewN ?_ _ | with_reducible refine Below.alloc1 ?_ _ | with_reducible refine Below.setCell1 ?_ (by first | omega | (simp; done) | (simp; omega)) _ | with_reducible refine Below.step ?_ (by with_reducible assumption)))⟩
        · have HXA : Hid (X = ((k : Int), s', -1)) := by
            show _ = _
            rw [HX.out, hak'.out, if_pos hlk]
          have j1_0 := j1.cell 0; have j1_f0 := j1.frozen 0; have j1_1 := j1.cell 1; have j1_f1 := j1.frozen 1; have j1_2 := j1.cell 2; have j1_f2 := j1.frozen 2; simp only [List.set_cons_zero, List.set_cons_succ, List.getElem?_cons_zero, List.getElem?_cons_succ] at j1_0 j1_1 j1_2
          have j2_0 := j2.cell 0; have j2_f0 := j2.frozen 0; have j2_1 := j2.cell 1; have j2_f1 := j2.frozen 1; have j2_2 := j2.cell 2; have j2_f2 := j2.frozen 2; simp only [List.set_cons_zero, List.set_cons_succ, List.getElem?_cons_zero, List.getElem?_cons_succ] at j2_0 j2_1 j2_2
          go_wp2_with fail
          exact bodyPost_ret (v := lsV X.1 X.2.1 X.2.2) (by rw [HXA.out]; simp only [results, Try.results52]; go_simp) rfl ⟨rfl, by (repeat (first | with_reducible exact Below.refl _ _ | with_reducible assumption | with_reducible refine Below.drew ?_ | with_reducible refine Below.drewN ?_ _ | with_reducible refine Below.alloc1 ?_ _ | with_reducible refine Below.setCell1 ?_ (by first | omega | (simp; done) | (simp; omega)) _ | with_reducible refine Below.step ?_ (by with_reducible assumption)))⟩
  · have HH : Hid (∀ w, Calls Try.prog 92 #[.int .i64 now, .int .i64 s, .int .i64 1099511627776] w fun e w' => e = .returned (.int .i64 NW) ∧ w = w') := fun w => (r16_held_any _ _ _ (by omega) w).lit (by rw [← HNW.out]; congr 2; omega)
    have HH0 : Hid (∀ w, Calls Try.prog 92 #[.int .i64 load, .int .i64 0, .int .i64 100] w fun e w' => e = .returned (.int .i64 LD) ∧ w = w') := fun w => (r16_held_any _ _ _ (by omega) w).lit (by rw [HLD.out])
    generalize hXS : vStep1 up dn hold l s v LD NW = X
    have HX : Hid (X = if l < A then (↑A, NW, -1) else if l = 0 ∨ dn (l - 1) ≤ LD then (↑l, s, -1) else if NW - (if v = -1 then NW else v) < hold then (↑l, s, if v = -1 then NW else v) else ((l : Int) - 1, NW, -1)) := by
      rw [← hXS]; have h := HST.out LD NW; rw [HA.out] at h; exact h
    clear hXS
    go_enter Try.func52, Try.ntmps52
    go_wp2_with fail
    generalize hV : World.alloc (World.alloc (World.alloc w _) _) _ = w0
    have hb0 : Below w.heap.size w w0 := by subst hV; (repeat (first | with_reducible exact Below.refl _ _ | with_reducible assumption | with_reducible refine Below.drew ?_ | with_reducible refine Below.drewN ?_ _ | with_reducible refine Below.alloc1 ?_ _ | with_reducible refine Below.setCell1 ?_ (by first | omega | (simp; done) | (simp; omega)) _ | with_reducible refine Below.step ?_ (by with_reducible assumption)))
    have q0 : Bk w0 w.heap.size 26 (lcC up dn hold) := by subst hV; (repeat (first | with_reducible exact Bk.new' _ _ _ _ (by simp; done) | with_reducible assumption | with_reducible refine Bk.alloc ?_ _ | with_reducible refine Bk.drew ?_ | with_reducible refine Bk.drewN ?_ _ | with_reducible refine Bk.step ?_ (by with_reducible assumption) | with_reducible refine Bk.far ?_ (by first | omega | (simp; done) | (simp; omega)) _))
    have q1 : Bk w0 (w.heap.size + 1) 36 (lsC l s v) := by subst hV; (repeat (first | with_reducible exact Bk.new' _ _ _ _ (by simp; done) | with_reducible assumption | with_reducible refine Bk.alloc ?_ _ | with_reducible refine Bk.drew ?_ | with_reducible refine Bk.drewN ?_ _ | with_reducible refine Bk.step ?_ (by with_reducible assumption) | with_reducible refine Bk.far ?_ (by first | omega | (simp; done) | (simp; omega)) _))
    have q2 : Bk w0 (w.heap.size + 1 + 1) 36 (lsC 0 0 0) := by subst hV; (repeat (first | with_reducible exact Bk.new' _ _ _ _ (by simp; done) | with_reducible assumption | with_reducible refine Bk.alloc ?_ _ | with_reducible refine Bk.drew ?_ | with_reducible refine Bk.drewN ?_ _ | with_reducible refine Bk.step ?_ (by with_reducible assumption) | with_reducible refine Bk.far ?_ (by first | omega | (simp; done) | (simp; omega)) _))
    clear hV
    refine (r16_Check_is H0.out _).mono ?_; rintro e w1 ⟨rfl, hb1⟩
    replace q0 := q0.step hb1
    replace q1 := q1.step hb1
    replace q2 := q2.step hb1
    replace hb0 : Below w.heap.size w w1 := by (repeat (first | with_reducible exact Below.refl _ _ | with_reducible assumption | with_reducible refine Below.drew ?_ | with_reducible refine Below.drewN ?_ _ | with_reducible refine Below.alloc1 ?_ _ | with_reducible refine Below.setCell1 ?_ (by first | omega | (simp; done) | (simp; omega)) _ | with_reducible refine Below.step ?_ (by with_reducible assumption)))
    clear hb1
    have q1_0 := q1.cell 0; have q1_f0 := q1.frozen 0; have q1_1 := q1.cell 1; have q1_f1 := q1.frozen 1; have q1_2 := q1.cell 2; have q1_f2 := q1.frozen 2; simp only [List.set_cons_zero, List.set_cons_succ, List.getElem?_cons_zero, List.getElem?_cons_succ] at q1_0 q1_1 q1_2
    have lw := And.intro q0.lt (And.intro q1.lt q2.lt)
    go_wp2_with fail
    refine (r16_Fine_is HF.out _).mono ?_; rintro e w2 ⟨rfl, hb2⟩
    replace q0 := q0.step hb2
    replace q1 := q1.step hb2
    replace q2 := q2.step hb2
    replace hb0 : Below w.heap.size w w2 := by (repeat (first | with_reducible exact Below.refl _ _ | with_reducible assumption | with_reducible refine Below.drew ?_ | with_reducible refine Below.drewN ?_ _ | with_reducible refine Below.alloc1 ?_ _ | with_reducible refine Below.setCell1 ?_ (by first | omega | (simp; done) | (simp; omega)) _ | with_reducible refine Below.step ?_ (by with_reducible assumption)))
    clear hb2 q1_0 q1_1 q1_2 q1_f0 q1_f1 q1_f2 lw
    have q1_0 := q1.cell 0; have q1_f0 := q1.frozen 0; have q1_1 := q1.cell 1; have q1_f1 := q1.frozen 1; have q1_2 := q1.cell 2; have q1_f2 := q1.frozen 2; simp only [List.set_cons_zero, List.set_cons_succ, List.getElem?_cons_zero, List.getElem?_cons_succ] at q1_0 q1_1 q1_2
    have lw := And.intro q0.lt (And.intro q1.lt q2.lt)
    go_wp2_with fail
    refine (HH0.out _).mono ?_; rintro e w' ⟨rfl, rfl⟩
    go_wp2_with fail
    refine (HH.out _).mono ?_; rintro e w' ⟨rfl, rfl⟩
    go_wp2_with fail
    clear q1_0 q1_1 q1_2 q1_f0 q1_f1 q1_f2 lw
    go_loopw [9] (fun o wr => ∃ (k : Nat) (s' v' : Int), k ≤ 3 ∧ Hid (A = vAsked up LD k) ∧ (k = l ∧ s' = s ∧ v' = v ∧ o = .bool false ∨ l < k ∧ s' = NW ∧ v' = -1 ∧ o = .bool true) ∧ Bk wr w.heap.size 26 (lcC up dn hold) ∧ Bk wr (w.heap.size + 1) 36 (lsC k s' v') ∧ Bk wr (w.heap.size + 1 + 1) 36 (lsC 0 0 0) ∧ Below w.heap.size w wr) (fun _ wr => match wr.cell? ⟨w.heap.size + 1, 0, none⟩ with | some (.int _ n) => 3 - n.toNat | _ => 0)
    case atStart => exact ⟨l, s, v, hl3, HA.out.symm, .inl ⟨rfl, rfl, rfl, rfl⟩, q0, q1, q2, hb0⟩
    case round =>
      obtain ⟨k, s', v', hk, hak, hor, j0, j1, j2, hbr⟩ := hrel
      clear q0 q1 q2 hb0
      have lj := And.intro j0.lt (And.intro j1.lt j2.lt)
      by_cases hlt : k < 3
      · have cu := up_cell j0 hlt
        by_cases hu : up k ≤ LD
        · have hak' : Hid (A = vAsked up LD (k + 1)) := by show _ = _; rw [hak.out]; exact vAsked_step hlt hu
          have hlk : l < k + 1 := by rcases hor with h | h <;> omega
          have HOR := hide hor
          clear hor
          have cm := j1.cell 0
          have j1_0 := j1.cell 0; have j1_f0 := j1.frozen 0; have j1_1 := j1.cell 1; have j1_f1 := j1.frozen 1; have j1_2 := j1.cell 2; have j1_f2 := j1.frozen 2; simp only [List.set_cons_zero, List.set_cons_succ, List.getElem?_cons_zero, List.getElem?_cons_succ] at j1_0 j1_1 j1_2
          have j2_0 := j2.cell 0; have j2_f0 := j2.frozen 0; have j2_1 := j2.cell 1; have j2_f1 := j2.frozen 1; have j2_2 := j2.cell 2; have j2_f2 := j2.frozen 2; simp only [List.set_cons_zero, List.set_cons_succ, List.getElem?_cons_zero, List.getElem?_cons_succ] at j2_0 j2_1 j2_2
          go_wp2_with fail
          have p1 := ((j1.set_ 0 (.int .i64 ((k : Int) + 1))).set_ 1 (.int .i64 NW)).set_ 2 (.int .i64 (-1))
          simp only [List.set_cons_zero, List.set_cons_succ] at p1
          have pm := p1.cell 0
          go_roundw
          case rel => exact ⟨k + 1, NW, -1, by omega, hak', .inr ⟨hlk, rfl, rfl, rfl⟩, ((j0.far (by dsimp only; omega) _).far (by dsimp only; omega) _).far (by dsimp only; omega) _, p1, ((j2.far (by dsimp only; omega) _).far (by dsimp only; omega) _).far (by dsimp only; omega) _, ((hbr.setCell (by dsimp only; omega) _).setCell (by dsimp only; omega) _).setCell (by dsimp only; omega) _⟩
          case measure => rw [pm, cm]; simp; omega
        · have hak' : Hid (A = k) := by show _ = _; rw [hak.out]; exact vAsked_stop (by omega)
          replace hu : LD < up k := by omega
          rcases hor with ⟨rfl, rfl, rfl, rfl⟩ | ⟨hlk, rfl, rfl, rfl⟩
          · have hAk := hak'.out
            have c1 : ¬ k < A := by omega
            have HAk := hide hAk
            clear hAk
            have j1_0 := j1.cell 0; have j1_f0 := j1.frozen 0; have j1_1 := j1.cell 1; have j1_f1 := j1.frozen 1; have j1_2 := j1.cell 2; have j1_f2 := j1.frozen 2; simp only [List.set_cons_zero, List.set_cons_succ, List.getElem?_cons_zero, List.getElem?_cons_succ] at j1_0 j1_1 j1_2
            have j2_0 := j2.cell 0; have j2_f0 := j2.frozen 0; have j2_1 := j2.cell 1; have j2_f1 := j2.frozen 1; have j2_2 := j2.cell 2; have j2_f2 := j2.frozen 2; simp only [List.set_cons_zero, List.set_cons_succ, List.getElem?_cons_zero, List.getElem?_cons_succ] at j2_0 j2_1 j2_2
            rcases Nat.eq_zero_or_pos k with hl0 | hl0
            · subst hl0
              have HX0 : Hid (X = (0, s', -1)) := by
                show _ = _
                rw [HX.out, if_neg c1, if_pos (Or.inl rfl)]; rfl
              have j00 : wr.cell? ⟨w.heap.size + 1, 0, none⟩ = some (.int .i64 0) := j1_0
              clear c1 j1_0
              go_wp2_with fail
              exact bodyPost_ret (v := lsV X.1 X.2.1 X.2.2) (by rw [HX0.out]; simp only [results, Try.results52]; go_simp) rfl ⟨rfl, by (repeat (first | with_reducible exact Below.refl _ _ | with_reducible assumption | with_reducible refine Below.drew ?_ | with_reducible refine Below.drewN ?_ _ | with_reducible refine Below.alloc1 ?_ _ | with_reducible refine Below.setCell1 ?_ (by first | omega | (simp; done) | (simp; omega)) _ | with_reducible refine Below.step ?_ (by with_reducible assumption)))⟩
            · obtain ⟨i, rfl⟩ : ∃ i, k = i + 1 := ⟨k - 1, by omega⟩
              have hk3 : i < 3 := by omega
              have hd := HLV.out i hk3
              have hz : ((i : Int) + 1 == 0) = false := by rw [beq_eq_false_iff_ne]; omega
              have dc := dn_cell j0 hk3
              have c6 := j0.cell 6
              simp only [List.getElem?_cons_zero, List.getElem?_cons_succ] at c6
              have HX2 : Hid (X = if dn i ≤ LD then (((i + 1 : Nat) : Int), s', -1) else if NW - (if v' = -1 then NW else v') < hold then (((i + 1 : Nat) : Int), s', if v' = -1 then NW else v') else (((i + 1 : Nat) : Int) - 1, NW, -1)) := by
                show _ = _
                rw [HX.out, if_neg c1]
                simp only [Nat.add_sub_cancel, show (i + 1 = 0) = False by simp, false_or]
              clear c1
              by_cases c2 : dn i ≤ LD
              · go_wp2_with fail
                exact bodyPost_ret (v := lsV X.1 X.2.1 X.2.2) (by rw [HX2.out, if_pos c2]; simp only [results, Try.results52]; go_simp) rfl ⟨rfl, by (repeat (first | with_reducible exact Below.refl _ _ | with_reducible assumption | with_reducible refine Below.drew ?_ | with_reducible refine Below.drewN ?_ _ | with_reducible refine Below.alloc1 ?_ _ | with_reducible refine Below.setCell1 ?_ (by first | omega | (simp; done) | (simp; omega)) _ | with_reducible refine Below.step ?_ (by with_reducible assumption)))⟩
              · have HX3 : Hid (X = if NW - (if v' = -1 then NW else v') < hold then (((i + 1 : Nat) : Int), s', if v' = -1 then NW else v') else (((i + 1 : Nat) : Int) - 1, NW, -1)) := by rw [HX2.out, if_neg c2]; exact rfl
                replace c2 : LD < dn i := by omega
                by_cases c3 : v' = -1
                · have c3' : v' < 0 := by omega
                  have HV := hide c3
                  have HX4 : Hid (X = if 0 < hold then (((i + 1 : Nat) : Int), s', NW) else (((i + 1 : Nat) : Int) - 1, NW, -1)) := by rw [HX3.out, if_pos c3, Int.sub_self]; exact rfl
                  clear c3
                  by_cases c4 : 0 < hold
                  · go_wp2_with fail
                    exact bodyPost_ret (v := lsV X.1 X.2.1 X.2.2) (by rw [HX4.out, if_pos c4]; simp only [results, Try.results52]; go_simp) rfl ⟨rfl, by (repeat (first | with_reducible exact Below.refl _ _ | with_reducible assumption | with_reducible refine Below.drew ?_ | with_reducible refine Below.drewN ?_ _ | with_reducible refine Below.alloc1 ?_ _ | with_reducible refine Below.setCell1 ?_ (by first | omega | (simp; done) | (simp; omega)) _ | with_reducible refine Below.step ?_ (by with_reducible assumption)))⟩
                  · replace c4 : hold ≤ 0 := by omega
                    go_wp2_with fail
                    exact bodyPost_ret (v := lsV X.1 X.2.1 X.2.2) (by rw [HX4.out, if_neg (by omega)]; simp only [results, Try.results52]; go_simp) rfl ⟨rfl, by (repeat (first | with_reducible exact Below.refl _ _ | with_reducible assumption | with_reducible refine Below.drew ?_ | with_reducible refine Below.drewN ?_ _ | with_reducible refine Below.alloc1 ?_ _ | with_reducible refine Below.setCell1 ?_ (by first | omega | (simp; done) | (simp; omega)) _ | with_reducible refine Below.step ?_ (by with_reducible assumption)))⟩
                · have HX4 : Hid (X = if NW - v' < hold then (((i + 1 : Nat) : Int), s', v') else (((i + 1 : Nat) : Int) - 1, NW, -1)) := by rw [HX3.out, if_neg c3]; exact rfl
                  replace c3 : 0 ≤ v' := by omega
                  by_cases c4 : NW - v' < hold
                  · go_wp2_with fail
                    exact bodyPost_ret (v := lsV X.1 X.2.1 X.2.2) (by rw [HX4.out, if_pos c4]; simp only [results, Try.results52]; go_simp) rfl ⟨rfl, by (repeat (first | with_reducible exact Below.refl _ _ | with_reducible assumption | with_reducible refine Below.drew ?_ | with_reducible refine Below.drewN ?_ _ | with_reducible refine Below.alloc1 ?_ _ | with_reducible refine Below.setCell1 ?_ (by first | omega | (simp; done) | (simp; omega)) _ | with_reducible refine Below.step ?_ (by with_reducible assumption)))⟩
                  · replace c4 : hold ≤ NW - v' := by omega
                    go_wp2_with fail
                    exact bodyPost_ret (v := lsV X.1 X.2.1 X.2.2) (by rw [HX4.out, if_neg (by omega)]; simp only [results, Try.results52]; go_simp) rfl ⟨rfl, by (repeat (first | with_reducible exact Below.refl _ _ | with_reducible assumption | with_reducible refine Below.drew ?_ | with_reducible refine Below.drewN ?_ _ | with_reducible refine Below.alloc1 ?_ _ | with_reducible refine Below.setCell1 ?_ (by first | omega | (simp; done) | (simp; omega)) _ | with_reducible refine Below.step ?_ (by with_reducible assumption)))⟩
          · have HXA : Hid (X = ((k : Int), s', -1)) := by
              show _ = _
              rw [HX.out, hak'.out, if_pos hlk]
            have j1_0 := j1.cell 0; have j1_f0 := j1.frozen 0; have j1_1 := j1.cell 1; have j1_f1 := j1.frozen 1; have j1_2 := j1.cell 2; have j1_f2 := j1.frozen 2; simp only [List.set_cons_zero, List.set_cons_succ, List.getElem?_cons_zero, List.getElem?_cons_succ] at j1_0 j1_1 j1_2
            have j2_0 := j2.cell 0; have j2_f0 := j2.frozen 0; have j2_1 := j2.cell 1; have j2_f1 := j2.frozen 1; have j2_2 := j2.cell 2; have j2_f2 := j2.frozen 2; simp only [List.set_cons_zero, List.set_cons_succ, List.getElem?_cons_zero, List.getElem?_cons_succ] at j2_0 j2_1 j2_2
            go_wp2_with fail
            exact bodyPost_ret (v := lsV X.1 X.2.1 X.2.2) (by rw [HXA.out]; simp only [results, Try.results52]; go_simp) rfl ⟨rfl, by (repeat (first | with_reducible exact Below.refl _ _ | with_reducible assumption | with_reducible refine Below.drew ?_ | with_reducible refine Below.drewN ?_ _ | with_reducible refine Below.alloc1 ?_ _ | with_reducible refine Below.setCell1 ?_ (by first | omega | (simp; done) | (simp; omega)) _ | with_reducible refine Below.step ?_ (by with_reducible assumption)))⟩
      · have hak' : Hid (A = k) := by show _ = _; rw [hak.out]; exact vAsked_top (by omega)
        rcases hor with ⟨rfl, rfl, rfl, rfl⟩ | ⟨hlk, rfl, rfl, rfl⟩
        · have hAk := hak'.out
          have c1 : ¬ k < A := by omega
          have HAk := hide hAk
          clear hAk
          have j1_0 := j1.cell 0; have j1_f0 := j1.frozen 0; have j1_1 := j1.cell 1; have j1_f1 := j1.frozen 1; have j1_2 := j1.cell 2; have j1_f2 := j1.frozen 2; simp only [List.set_cons_zero, List.set_cons_succ, List.getElem?_cons_zero, List.getElem?_cons_succ] at j1_0 j1_1 j1_2
          have j2_0 := j2.cell 0; have j2_f0 := j2.frozen 0; have j2_1 := j2.cell 1; have j2_f1 := j2.frozen 1; have j2_2 := j2.cell 2; have j2_f2 := j2.frozen 2; simp only [List.set_cons_zero, List.set_cons_succ, List.getElem?_cons_zero, List.getElem?_cons_succ] at j2_0 j2_1 j2_2
          rcases Nat.eq_zero_or_pos k with hl0 | hl0
          · exfalso; omega
          · obtain ⟨i, rfl⟩ : ∃ i, k = i + 1 := ⟨k - 1, by omega⟩
            have hk3 : i < 3 := by omega
            have hd := HLV.out i hk3
            have hz : ((i : Int) + 1 == 0) = false := by rw [beq_eq_false_iff_ne]; omega
            have dc := dn_cell j0 hk3
            have c6 := j0.cell 6
            simp only [List.getElem?_cons_zero, List.getElem?_cons_succ] at c6
            have HX2 : Hid (X = if dn i ≤ LD then (((i + 1 : Nat) : Int), s', -1) else if NW - (if v' = -1 then NW else v') < hold then (((i + 1 : Nat) : Int), s', if v' = -1 then NW else v') else (((i + 1 : Nat) : Int) - 1, NW, -1)) := by
              show _ = _
              rw [HX.out, if_neg c1]
              simp only [Nat.add_sub_cancel, show (i + 1 = 0) = False by simp, false_or]
            clear c1
            by_cases c2 : dn i ≤ LD
            · go_wp2_with fail
              exact bodyPost_ret (v := lsV X.1 X.2.1 X.2.2) (by rw [HX2.out, if_pos c2]; simp only [results, Try.results52]; go_simp) rfl ⟨rfl, by (repeat (first | with_reducible exact Below.refl _ _ | with_reducible assumption | with_reducible refine Below.drew ?_ | with_reducible refine Below.drewN ?_ _ | with_reducible refine Below.alloc1 ?_ _ | with_reducible refine Below.setCell1 ?_ (by first | omega | (simp; done) | (simp; omega)) _ | with_reducible refine Below.step ?_ (by with_reducible assumption)))⟩
            · have HX3 : Hid (X = if NW - (if v' = -1 then NW else v') < hold then (((i + 1 : Nat) : Int), s', if v' = -1 then NW else v') else (((i + 1 : Nat) : Int) - 1, NW, -1)) := by rw [HX2.out, if_neg c2]; exact rfl
              replace c2 : LD < dn i := by omega
              by_cases c3 : v' = -1
              · have c3' : v' < 0 := by omega
                have HV := hide c3
                have HX4 : Hid (X = if 0 < hold then (((i + 1 : Nat) : Int), s', NW) else (((i + 1 : Nat) : Int) - 1, NW, -1)) := by rw [HX3.out, if_pos c3, Int.sub_self]; exact rfl
                clear c3
                by_cases c4 : 0 < hold
                · go_wp2_with fail
                  exact bodyPost_ret (v := lsV X.1 X.2.1 X.2.2) (by rw [HX4.out, if_pos c4]; simp only [results, Try.results52]; go_simp) rfl ⟨rfl, by (repeat (first | with_reducible exact Below.refl _ _ | with_reducible assumption | with_reducible refine Below.drew ?_ | with_reducible refine Below.drewN ?_ _ | with_reducible refine Below.alloc1 ?_ _ | with_reducible refine Below.setCell1 ?_ (by first | omega | (simp; done) | (simp; omega)) _ | with_reducible refine Below.step ?_ (by with_reducible assumption)))⟩
                · replace c4 : hold ≤ 0 := by omega
                  go_wp2_with fail
                  exact bodyPost_ret (v := lsV X.1 X.2.1 X.2.2) (by rw [HX4.out, if_neg (by omega)]; simp only [results, Try.results52]; go_simp) rfl ⟨rfl, by (repeat (first | with_reducible exact Below.refl _ _ | with_reducible assumption | with_reducible refine Below.drew ?_ | with_reducible refine Below.drewN ?_ _ | with_reducible refine Below.alloc1 ?_ _ | with_reducible refine Below.setCell1 ?_ (by first | omega | (simp; done) | (simp; omega)) _ | with_reducible refine Below.step ?_ (by with_reducible assumption)))⟩
              · have HX4 : Hid (X = if NW - v' < hold then (((i + 1 : Nat) : Int), s', v') else (((i + 1 : Nat) : Int) - 1, NW, -1)) := by rw [HX3.out, if_neg c3]; exact rfl
                replace c3 : 0 ≤ v' := by omega
                by_cases c4 : NW - v' < hold
                · go_wp2_with fail
                  exact bodyPost_ret (v := lsV X.1 X.2.1 X.2.2) (by rw [HX4.out, if_pos c4]; simp only [results, Try.results52]; go_simp) rfl ⟨rfl, by (repeat (first | with_reducible exact Below.refl _ _ | with_reducible assumption | with_reducible refine Below.drew ?_ | with_reducible refine Below.drewN ?_ _ | with_reducible refine Below.alloc1 ?_ _ | with_reducible refine Below.setCell1 ?_ (by first | omega | (simp; done) | (simp; omega)) _ | with_reducible refine Below.step ?_ (by with_reducible assumption)))⟩
                · replace c4 : hold ≤ NW - v' := by omega
                  go_wp2_with fail
                  exact bodyPost_ret (v := lsV X.1 X.2.1 X.2.2) (by rw [HX4.out, if_neg (by omega)]; simp only [results, Try.results52]; go_simp) rfl ⟨rfl, by (repeat (first | with_reducible exact Below.refl _ _ | with_reducible assumption | with_reducible refine Below.drew ?_ | with_reducible refine Below.drewN ?_ _ | with_reducible refine Below.alloc1 ?_ _ | with_reducible refine Below.setCell1 ?_ (by first | omega | (simp; done) | (simp; omega)) _ | with_reducible refine Below.step ?_ (by with_reducible assumption)))⟩
        · have HXA : Hid (X = ((k : Int), s', -1)) := by
            show _ = _
            rw [HX.out, hak'.out, if_pos hlk]
          have j1_0 := j1.cell 0; have j1_f0 := j1.frozen 0; have j1_1 := j1.cell 1; have j1_f1 := j1.frozen 1; have j1_2 := j1.cell 2; have j1_f2 := j1.frozen 2; simp only [List.set_cons_zero, List.set_cons_succ, List.getElem?_cons_zero, List.getElem?_cons_succ] at j1_0 j1_1 j1_2
          have j2_0 := j2.cell 0; have j2_f0 := j2.frozen 0; have j2_1 := j2.cell 1; have j2_f1 := j2.frozen 1; have j2_2 := j2.cell 2; have j2_f2 := j2.frozen 2; simp only [List.set_cons_zero, List.set_cons_succ, List.getElem?_cons_zero, List.getElem?_cons_succ] at j2_0 j2_1 j2_2
          go_wp2_with fail
          exact bodyPost_ret (v := lsV X.1 X.2.1 X.2.2) (by rw [HXA.out]; simp only [results, Try.results52]; go_simp) rfl ⟨rfl, by (repeat (first | with_reducible exact Below.refl _ _ | with_reducible assumption | with_reducible refine Below.drew ?_ | with_reducible refine Below.drewN ?_ _ | with_reducible refine Below.alloc1 ?_ _ | with_reducible refine Below.setCell1 ?_ (by first | omega | (simp; done) | (simp; omega)) _ | with_reducible refine Below.step ?_ (by with_reducible assumption)))⟩

theorem r16_Step_any (up dn : Nat → Int) (hold l s v load now : Int) (w : World) :
    Calls Try.prog 52 #[lcV up dn hold, lsV l s v, .int .i64 load, .int .i64 now] w fun e w' =>
      e = .returned (lsV (vStep up dn hold l s v load now).1 (vStep up dn hold l s v load now).2.1 (vStep up dn hold l s v load now).2.2) ∧ Below w.heap.size w w' := by
  cases hm : vMay up dn hold l s v
  · have e : vStep up dn hold l s v load now = (l, s, v) := by unfold vStep; rw [hm]; rfl
    rw [e]; exact r16_Step_no hm load now w
  · have hm2 := hm
    simp only [vMay, Bool.and_eq_true, beq_iff_eq] at hm2
    have hf := vFine_t hm2.2
    obtain ⟨k, rfl⟩ : ∃ k : Nat, l = k := ⟨l.toNat, by omega⟩
    have e : vStep up dn hold k s v load now = vStep1 up dn hold k s v (vHeld load 0 100) (vHeld now (max s v) 1099511627776) := by unfold vStep; rw [hm, if_pos rfl, Int.toNat_natCast]
    rw [e]; exact r16_Step_yes hm2.1 hm2.2 load now w
theorem r16_Step_is {up dn : Nat → Int} {hold l s v load now : Int} {x : Int × Int × Int} (h : vStep up dn hold l s v load now = x) (w : World) :
    Calls Try.prog 52 #[lcV up dn hold, lsV l s v, .int .i64 load, .int .i64 now] w fun e w' => e = .returned (lsV x.1 x.2.1 x.2.2) ∧ Below w.heap.size w w' := by
  subst h; exact r16_Step_any up dn hold l s v load now w

end Go.Proofs.Ytolpiaehleefbaa
