/- Contracts of package level, further: Name, Step, Run. -/
import Derived.Test.YtbajakifkidccaaLev2
namespace Go.Proofs.Ytbajakifkidccaa
open Go.RowKit
set_option linter.unusedSimpArgs false
set_option linter.unusedVariables false

def vName (level : Int) : ByteArray := if level = 0 then ⟨#[99, 97, 108, 109]⟩ else if level = 1 then ⟨#[98, 117, 115, 121]⟩ else if level = 2 then ⟨#[116, 105, 103, 104, 116]⟩ else if level = 3 then ⟨#[115, 104, 117, 116]⟩ else ⟨#[]⟩
abbrev nmV : Value := .agg #[.string ⟨#[99, 97, 108, 109]⟩, .string ⟨#[98, 117, 115, 121]⟩, .string ⟨#[116, 105, 103, 104, 116]⟩, .string ⟨#[115, 104, 117, 116]⟩]
theorem nm0 (w : World) : (Instr.index 56 nmV (.int .i64 0)).run Try.prog w = .ok (.string ⟨#[99, 97, 108, 109]⟩) w := by kernel_rfl
theorem nm1 (w : World) : (Instr.index 56 nmV (.int .i64 1)).run Try.prog w = .ok (.string ⟨#[98, 117, 115, 121]⟩) w := by kernel_rfl
theorem nm2 (w : World) : (Instr.index 56 nmV (.int .i64 2)).run Try.prog w = .ok (.string ⟨#[116, 105, 103, 104, 116]⟩) w := by kernel_rfl
theorem nm3 (w : World) : (Instr.index 56 nmV (.int .i64 3)).run Try.prog w = .ok (.string ⟨#[115, 104, 117, 116]⟩) w := by kernel_rfl
theorem level_Name_any (level : Int) (w : World) :
    Calls Try.prog 23 #[.int .i64 level] w fun e w' => e = .returned (.string (vName level)) ∧ w = w' := by
  cases h1 : vIn level 0 3
  · have h := vIn_f h1
    go_enter Try.func23, Try.ntmps23
    go_wp2_with (go_at_call 29; refine (level_in_is h1 _).mono ?_; rintro e w' ⟨rfl, rfl⟩)
    go_ret
    have e : vName level = ⟨#[]⟩ := by unfold vName; rw [if_neg (by omega), if_neg (by omega), if_neg (by omega), if_neg (by omega)]
    exact ⟨by rw [e]; rfl, rfl⟩
  · have h := vIn_t h1
    have h4 : level = 0 ∨ level = 1 ∨ level = 2 ∨ level = 3 := by omega
    have n0 := nm0
    have n1 := nm1
    have n2 := nm2
    have n3 := nm3
    rcases h4 with rfl | rfl | rfl | rfl
    all_goals
      go_enter Try.func23, Try.ntmps23
      go_wp2_with (go_at_call 29; refine (level_in_is h1 _).mono ?_; rintro e w' ⟨rfl, rfl⟩)
      go_ret
      exact ⟨rfl, rfl⟩

theorem level_Step_no {up dn : Nat → Int} {hold l s v : Int} (h : vMay up dn hold l s v = false) (load now : Int) (w : World) :
    Calls Try.prog 7 #[lcV up dn hold, lsV l s v, .int .i64 load, .int .i64 now] w fun e w' => e = .returned (lsV l s v) ∧ Below w.heap.size w w' := by
  have hv := vCheck_cases up dn hold
  by_cases h0 : vCheck up dn hold = 0
  · have hf : vFine l s v = false := by simpa [vMay, h0] using h
    have H0 := hide h0
    clear h0 h hv
    go_enter Try.func7, Try.ntmps7
    go_wp2_with fail
    refine (level_Check_is H0.out _).mono ?_; rintro e w1 ⟨rfl, hb1⟩; obtain ⟨hc_hb1, hf_hb1⟩ := bcell hb1; have hz_hb1 := hb1.size; (try simp at hz_hb1)
    have lw : w.heap.size < w1.heap.size ∧ w.heap.size + 1 < w1.heap.size ∧ w.heap.size + 1 + 1 < w1.heap.size := by omega
    go_wp2_with fail
    refine (level_Fine_is hf _).mono ?_; rintro e w2 ⟨rfl, hb2⟩; obtain ⟨hc_hb2, hf_hb2⟩ := bcell hb2; have hz_hb2 := hb2.size; (try simp at hz_hb2)
    have lw2 : w.heap.size < w2.heap.size ∧ w.heap.size + 1 < w2.heap.size ∧ w.heap.size + 1 + 1 < w2.heap.size := by omega
    go_wp2_with fail
    exact bodyPost_ret (v := lsV l s v) (by skip; simp only [results, Try.results7]; go_simp) rfl ⟨rfl, by (repeat (first | with_reducible exact Below.refl _ _ | with_reducible assumption | with_reducible refine Below.drew ?_ | with_reducible refine Below.drewN ?_ _ | with_reducible refine Below.alloc1 ?_ _ | with_reducible refine Below.setCell1 ?_ (by first | omega | (simp; done) | (simp; omega)) _ | with_reducible refine Below.step ?_ (by with_reducible assumption)))⟩
  · have hv' : vCheck up dn hold = 8 ∨ vCheck up dn hold = 10 := by omega
    clear h0 h hv
    rcases hv' with h1 | h1
    all_goals
      have H1 := hide h1
      clear h1
      go_enter Try.func7, Try.ntmps7
      go_wp2_with fail
      refine (level_Check_is H1.out _).mono ?_; rintro e w1 ⟨rfl, hb1⟩; obtain ⟨hc_hb1, hf_hb1⟩ := bcell hb1; have hz_hb1 := hb1.size; (try simp at hz_hb1)
      have lw : w.heap.size < w1.heap.size ∧ w.heap.size + 1 < w1.heap.size ∧ w.heap.size + 1 + 1 < w1.heap.size := by omega
      go_wp2_with fail
      exact bodyPost_ret (v := lsV l s v) (by skip; simp only [results, Try.results7]; go_simp) rfl ⟨rfl, by (repeat (first | with_reducible exact Below.refl _ _ | with_reducible assumption | with_reducible refine Below.drew ?_ | with_reducible refine Below.drewN ?_ _ | with_reducible refine Below.alloc1 ?_ _ | with_reducible refine Below.setCell1 ?_ (by first | omega | (simp; done) | (simp; omega)) _ | with_reducible refine Below.step ?_ (by with_reducible assumption)))⟩

theorem vHeld_bd {n a b : Int} (h : a ≤ b) : a ≤ vHeld n a b ∧ vHeld n a b ≤ b := by unfold vHeld; omega
set_option maxHeartbeats 4000000 in
theorem level_Step_yes {up dn : Nat → Int} {hold s v : Int} {l : Nat} (h0 : vCheck up dn hold = 0) (hf : vFine l s v = true) (load now : Int) (w : World) :
    Calls Try.prog 7 #[lcV up dn hold, lsV l s v, .int .i64 load, .int .i64 now] w fun e w' =>
      e = .returned (lsV (vStep1 up dn hold l s v (vHeld load 0 100) (vHeld now (max s v) 1099511627776)).1 (vStep1 up dn hold l s v (vHeld load 0 100) (vHeld now (max s v) 1099511627776)).2.1 (vStep1 up dn hold l s v (vHeld load 0 100) (vHeld now (max s v) 1099511627776)).2.2) ∧ Below w.heap.size w w' := by
  have hfb := vFine_t hf
  have hcb := vCheck_t h0
  have hnb := vHeld_bd (n := now) (a := max s v) (b := 1099511627776) (by omega)
  have hlb := vHeld_bd (n := load) (a := 0) (b := 100) (by omega)
  have hab := vAsked_le up (vHeld load 0 100) l
  have hlv := fun k (hk : k < 3) => vLoads_of hcb.1.1 hk
  have hho := hcb.1.2
  have HLV := hide hlv
  have HST : Hid (∀ load now : Int, vStep1 up dn hold l s v load now = if l < vAsked up load l then (↑(vAsked up load l), now, -1)
    else if l = 0 ∨ dn (l - 1) ≤ load then (↑l, s, -1) else if now - (if v = -1 then now else v) < hold then (↑l, s, if v = -1 then now else v) else ((l : Int) - 1, now, -1)) := fun _ _ => rfl
  have H0 := hide h0
  have HF := hide hf
  have hA : ∀ {a : Nat}, vAsked up (vHeld load 0 100) l = a → Hid (vAsked up (vHeld load 0 100) l = a) := fun h => h
  obtain ⟨A, hAe⟩ : ∃ A, vAsked up (vHeld load 0 100) l = A := ⟨_, rfl⟩
  have HA := hide hAe
  rw [hAe] at hab
  obtain ⟨LD, hLD⟩ : ∃ x, vHeld load 0 100 = x := ⟨_, rfl⟩
  obtain ⟨NW, hNW⟩ : ∃ x, vHeld now (max s v) 1099511627776 = x := ⟨_, rfl⟩
  rw [hLD] at hlb HA
  rw [hNW] at hnb
  rw [hLD, hNW]
  have HLD := hide hLD
  have HNW := hide hNW
  have hlA : l ≤ A ∧ A ≤ 3 := ⟨hab.1, hab.2 (by omega)⟩
  have hl3 : l ≤ 3 := by omega
  clear h0 hf hcb hlv hA hAe hLD hNW hab
  rcases Int.lt_or_le s v with hsv | hsv
  · have HH : Hid (∀ w, Calls Try.prog 25 #[.int .i64 now, .int .i64 v, .int .i64 1099511627776] w fun e w' => e = .returned (.int .i64 NW) ∧ w = w') := fun w => (level_held_any _ _ _ w).lit (by rw [← HNW.out]; congr 2; omega)
    have HH0 : Hid (∀ w, Calls Try.prog 25 #[.int .i64 load, .int .i64 0, .int .i64 100] w fun e w' => e = .returned (.int .i64 LD) ∧ w = w') := fun w => (level_held_any _ _ _ w).lit (by rw [HLD.out])
    have HAK : Hid (∀ w, Calls Try.prog 26 #[lcV up dn hold, .int .i64 l, .int .i64 LD] w fun e w' => e = .returned (.int .i64 A) ∧ Below w.heap.size w w') := fun w => (level_asked_any up dn hold l hl3 LD w).lit (by rw [HA.out])
    generalize hXS : vStep1 up dn hold l s v LD NW = X
    have HX : Hid (X = if l < A then (↑A, NW, -1) else if l = 0 ∨ dn (l - 1) ≤ LD then (↑l, s, -1) else if NW - (if v = -1 then NW else v) < hold then (↑l, s, if v = -1 then NW else v) else ((l : Int) - 1, NW, -1)) := by
      rw [← hXS]; have h := HST.out LD NW; rw [HA.out] at h; exact h
    clear hXS
    go_enter Try.func7, Try.ntmps7
    go_wp2_with fail
    generalize hV : World.alloc (World.alloc (World.alloc w _) _) _ = w0
    have hb0 : Below w.heap.size w w0 := by subst hV; (repeat (first | with_reducible exact Below.refl _ _ | with_reducible assumption | with_reducible refine Below.drew ?_ | with_reducible refine Below.drewN ?_ _ | with_reducible refine Below.alloc1 ?_ _ | with_reducible refine Below.setCell1 ?_ (by first | omega | (simp; done) | (simp; omega)) _ | with_reducible refine Below.step ?_ (by with_reducible assumption)))
    have q0 : Bk w0 w.heap.size 28 (lcC up dn hold) := by subst hV; (repeat (first | with_reducible exact Bk.new' _ _ _ _ (by simp; done) | with_reducible assumption | with_reducible refine Bk.alloc ?_ _ | with_reducible refine Bk.drew ?_ | with_reducible refine Bk.drewN ?_ _ | with_reducible refine Bk.step ?_ (by with_reducible assumption) | with_reducible refine Bk.far ?_ (by first | omega | (simp; done) | (simp; omega)) _))
    have q1 : Bk w0 (w.heap.size + 1) 29 (lsC l s v) := by subst hV; (repeat (first | with_reducible exact Bk.new' _ _ _ _ (by simp; done) | with_reducible assumption | with_reducible refine Bk.alloc ?_ _ | with_reducible refine Bk.drew ?_ | with_reducible refine Bk.drewN ?_ _ | with_reducible refine Bk.step ?_ (by with_reducible assumption) | with_reducible refine Bk.far ?_ (by first | omega | (simp; done) | (simp; omega)) _))
    have q2 : Bk w0 (w.heap.size + 1 + 1) 29 (lsC 0 0 0) := by subst hV; (repeat (first | with_reducible exact Bk.new' _ _ _ _ (by simp; done) | with_reducible assumption | with_reducible refine Bk.alloc ?_ _ | with_reducible refine Bk.drew ?_ | with_reducible refine Bk.drewN ?_ _ | with_reducible refine Bk.step ?_ (by with_reducible assumption) | with_reducible refine Bk.far ?_ (by first | omega | (simp; done) | (simp; omega)) _))
    clear hV
    refine (level_Check_is H0.out _).mono ?_; rintro e w1 ⟨rfl, hb1⟩
    replace q0 := q0.step hb1
    replace q1 := q1.step hb1
    replace q2 := q2.step hb1
    replace hb0 : Below w.heap.size w w1 := by (repeat (first | with_reducible exact Below.refl _ _ | with_reducible assumption | with_reducible refine Below.drew ?_ | with_reducible refine Below.drewN ?_ _ | with_reducible refine Below.alloc1 ?_ _ | with_reducible refine Below.setCell1 ?_ (by first | omega | (simp; done) | (simp; omega)) _ | with_reducible refine Below.step ?_ (by with_reducible assumption)))
    have q0_0 := q0.cell 0; have q0_f0 := q0.frozen 0; have q0_1 := q0.cell 1; have q0_f1 := q0.frozen 1; have q0_2 := q0.cell 2; have q0_f2 := q0.frozen 2; have q0_3 := q0.cell 3; have q0_f3 := q0.frozen 3; have q0_4 := q0.cell 4; have q0_f4 := q0.frozen 4; have q0_5 := q0.cell 5; have q0_f5 := q0.frozen 5; have q0_6 := q0.cell 6; have q0_f6 := q0.frozen 6; simp only [List.set_cons_zero, List.set_cons_succ, List.getElem?_cons_zero, List.getElem?_cons_succ] at q0_0 q0_1 q0_2 q0_3 q0_4 q0_5 q0_6
    have q1_0 := q1.cell 0; have q1_f0 := q1.frozen 0; have q1_1 := q1.cell 1; have q1_f1 := q1.frozen 1; have q1_2 := q1.cell 2; have q1_f2 := q1.frozen 2; simp only [List.set_cons_zero, List.set_cons_succ, List.getElem?_cons_zero, List.getElem?_cons_succ] at q1_0 q1_1 q1_2
    have q2_0 := q2.cell 0; have q2_f0 := q2.frozen 0; have q2_1 := q2.cell 1; have q2_f1 := q2.frozen 1; have q2_2 := q2.cell 2; have q2_f2 := q2.frozen 2; simp only [List.set_cons_zero, List.set_cons_succ, List.getElem?_cons_zero, List.getElem?_cons_succ] at q2_0 q2_1 q2_2
    have lw : w.heap.size < w1.heap.size ∧ w.heap.size + 1 < w1.heap.size ∧ w.heap.size + 1 + 1 < w1.heap.size := ⟨q0.lt, q1.lt, q2.lt⟩
    clear hb1
    go_wp2_with fail
    refine (level_Fine_is HF.out _).mono ?_; rintro e w2 ⟨rfl, hb2⟩; obtain ⟨hc_hb2, hf_hb2⟩ := bcell hb2; have hz_hb2 := hb2.size; (try simp at hz_hb2)
    have lw2 : w.heap.size < w2.heap.size ∧ w.heap.size + 1 < w2.heap.size ∧ w.heap.size + 1 + 1 < w2.heap.size := by omega
    go_wp2_with fail
    refine (HH0.out _).mono ?_; rintro e w' ⟨rfl, rfl⟩
    go_wp2_with fail
    refine (HH.out _).mono ?_; rintro e w' ⟨rfl, rfl⟩
    go_wp2_with fail
    refine (HAK.out _).mono ?_; rintro e w3 ⟨rfl, hb3⟩; obtain ⟨hc_hb3, hf_hb3⟩ := bcell hb3; have hz_hb3 := hb3.size; (try simp at hz_hb3)
    have lw3 : w.heap.size < w3.heap.size ∧ w.heap.size + 1 < w3.heap.size ∧ w.heap.size + 1 + 1 < w3.heap.size := by omega
    have hbw : Below w.heap.size w w3 := by (repeat (first | with_reducible exact Below.refl _ _ | with_reducible assumption | with_reducible refine Below.drew ?_ | with_reducible refine Below.drewN ?_ _ | with_reducible refine Below.alloc1 ?_ _ | with_reducible refine Below.setCell1 ?_ (by first | omega | (simp; done) | (simp; omega)) _ | with_reducible refine Below.step ?_ (by with_reducible assumption)))
    by_cases c1 : l < A
    · go_wp2_with fail
      exact bodyPost_ret (v := lsV X.1 X.2.1 X.2.2) (by rw [HX.out, if_pos c1]; simp only [results, Try.results7]; go_simp) rfl ⟨rfl, by (repeat (first | with_reducible exact Below.refl _ _ | with_reducible assumption | with_reducible refine Below.drew ?_ | with_reducible refine Below.drewN ?_ _ | with_reducible refine Below.alloc1 ?_ _ | with_reducible refine Below.setCell1 ?_ (by first | omega | (simp; done) | (simp; omega)) _ | with_reducible refine Below.step ?_ (by with_reducible assumption)))⟩
    · rcases Nat.eq_zero_or_pos l with hl0 | hl0
      · subst hl0
        have HX0 : Hid (X = (0, s, -1)) := by
          show _ = _
          rw [HX.out, if_neg c1, if_pos (Or.inl rfl)]; rfl
        go_wp2_with fail
        exact bodyPost_ret (v := lsV X.1 X.2.1 X.2.2) (by rw [HX0.out]; simp only [results, Try.results7]; go_simp) rfl ⟨rfl, by (repeat (first | with_reducible exact Below.refl _ _ | with_reducible assumption | with_reducible refine Below.drew ?_ | with_reducible refine Below.drewN ?_ _ | with_reducible refine Below.alloc1 ?_ _ | with_reducible refine Below.setCell1 ?_ (by first | omega | (simp; done) | (simp; omega)) _ | with_reducible refine Below.step ?_ (by with_reducible assumption)))⟩
      · obtain ⟨k, rfl⟩ : ∃ k, l = k + 1 := ⟨l - 1, by omega⟩
        have hk3 : k < 3 := by omega
        have hd := HLV.out k hk3
        have dc := dn_cell q0 hk3
        have HX2 : Hid (X = if dn k ≤ LD then (((k + 1 : Nat) : Int), s, -1) else if NW - (if v = -1 then NW else v) < hold then (((k + 1 : Nat) : Int), s, if v = -1 then NW else v) else (((k + 1 : Nat) : Int) - 1, NW, -1)) := by
          show _ = _
          rw [HX.out, if_neg c1]
          simp only [Nat.add_sub_cancel, show (k + 1 = 0) = False by simp, false_or]
        have HE : Hid (A = k + 1) := by show _ = _; omega
        by_cases c2 : dn k ≤ LD
        · go_wp2_with fail
          exact bodyPost_ret (v := lsV X.1 X.2.1 X.2.2) (by rw [HX2.out, if_pos c2]; simp only [results, Try.results7]; go_simp) rfl ⟨rfl, by (repeat (first | with_reducible exact Below.refl _ _ | with_reducible assumption | with_reducible refine Below.drew ?_ | with_reducible refine Below.drewN ?_ _ | with_reducible refine Below.alloc1 ?_ _ | with_reducible refine Below.setCell1 ?_ (by first | omega | (simp; done) | (simp; omega)) _ | with_reducible refine Below.step ?_ (by with_reducible assumption)))⟩
        · have HX3 : Hid (X = if NW - (if v = -1 then NW else v) < hold then (((k + 1 : Nat) : Int), s, if v = -1 then NW else v) else (((k + 1 : Nat) : Int) - 1, NW, -1)) := by rw [HX2.out, if_neg c2]; exact rfl
          replace c2 : LD < dn k := by omega
          by_cases c3 : v = -1
          · exfalso; omega
          · have c3' : (v == -1) = false := by simpa using c3
            have HV := hide c3
            have HX4 : Hid (X = if NW - v < hold then (((k + 1 : Nat) : Int), s, v) else (((k + 1 : Nat) : Int) - 1, NW, -1)) := by rw [HX3.out, if_neg c3]; exact rfl
            clear c3
            by_cases c4 : NW - v < hold
            · go_wp2_with fail
              exact bodyPost_ret (v := lsV X.1 X.2.1 X.2.2) (by rw [HX4.out, if_pos c4]; simp only [results, Try.results7]; go_simp) rfl ⟨rfl, by (repeat (first | with_reducible exact Below.refl _ _ | with_reducible assumption | with_reducible refine Below.drew ?_ | with_reducible refine Below.drewN ?_ _ | with_reducible refine Below.alloc1 ?_ _ | with_reducible refine Below.setCell1 ?_ (by first | omega | (simp; done) | (simp; omega)) _ | with_reducible refine Below.step ?_ (by with_reducible assumption)))⟩
            · replace c4 : hold ≤ NW - v := by omega
              go_wp2_with fail
              exact bodyPost_ret (v := lsV X.1 X.2.1 X.2.2) (by rw [HX4.out, if_neg (by omega)]; simp only [results, Try.results7]; go_simp) rfl ⟨rfl, by (repeat (first | with_reducible exact Below.refl _ _ | with_reducible assumption | with_reducible refine Below.drew ?_ | with_reducible refine Below.drewN ?_ _ | with_reducible refine Below.alloc1 ?_ _ | with_reducible refine Below.setCell1 ?_ (by first | omega | (simp; done) | (simp; omega)) _ | with_reducible refine Below.step ?_ (by with_reducible assumption)))⟩
  · have HH : Hid (∀ w, Calls Try.prog 25 #[.int .i64 now, .int .i64 s, .int .i64 1099511627776] w fun e w' => e = .returned (.int .i64 NW) ∧ w = w') := fun w => (level_held_any _ _ _ w).lit (by rw [← HNW.out]; congr 2; omega)
    have HH0 : Hid (∀ w, Calls Try.prog 25 #[.int .i64 load, .int .i64 0, .int .i64 100] w fun e w' => e = .returned (.int .i64 LD) ∧ w = w') := fun w => (level_held_any _ _ _ w).lit (by rw [HLD.out])
    have HAK : Hid (∀ w, Calls Try.prog 26 #[lcV up dn hold, .int .i64 l, .int .i64 LD] w fun e w' => e = .returned (.int .i64 A) ∧ Below w.heap.size w w') := fun w => (level_asked_any up dn hold l hl3 LD w).lit (by rw [HA.out])
    generalize hXS : vStep1 up dn hold l s v LD NW = X
    have HX : Hid (X = if l < A then (↑A, NW, -1) else if l = 0 ∨ dn (l - 1) ≤ LD then (↑l, s, -1) else if NW - (if v = -1 then NW else v) < hold then (↑l, s, if v = -1 then NW else v) else ((l : Int) - 1, NW, -1)) := by
      rw [← hXS]; have h := HST.out LD NW; rw [HA.out] at h; exact h
    clear hXS
    go_enter Try.func7, Try.ntmps7
    go_wp2_with fail
    generalize hV : World.alloc (World.alloc (World.alloc w _) _) _ = w0
    have hb0 : Below w.heap.size w w0 := by subst hV; (repeat (first | with_reducible exact Below.refl _ _ | with_reducible assumption | with_reducible refine Below.drew ?_ | with_reducible refine Below.drewN ?_ _ | with_reducible refine Below.alloc1 ?_ _ | with_reducible refine Below.setCell1 ?_ (by first | omega | (simp; done) | (simp; omega)) _ | with_reducible refine Below.step ?_ (by with_reducible assumption)))
    have q0 : Bk w0 w.heap.size 28 (lcC up dn hold) := by subst hV; (repeat (first | with_reducible exact Bk.new' _ _ _ _ (by simp; done) | with_reducible assumption | with_reducible refine Bk.alloc ?_ _ | with_reducible refine Bk.drew ?_ | with_reducible refine Bk.drewN ?_ _ | with_reducible refine Bk.step ?_ (by with_reducible assumption) | with_reducible refine Bk.far ?_ (by first | omega | (simp; done) | (simp; omega)) _))
    have q1 : Bk w0 (w.heap.size + 1) 29 (lsC l s v) := by subst hV; (repeat (first | with_reducible exact Bk.new' _ _ _ _ (by simp; done) | with_reducible assumption | with_reducible refine Bk.alloc ?_ _ | with_reducible refine Bk.drew ?_ | with_reducible refine Bk.drewN ?_ _ | with_reducible refine Bk.step ?_ (by with_reducible assumption) | with_reducible refine Bk.far ?_ (by first | omega | (simp; done) | (simp; omega)) _))
    have q2 : Bk w0 (w.heap.size + 1 + 1) 29 (lsC 0 0 0) := by subst hV; (repeat (first | with_reducible exact Bk.new' _ _ _ _ (by simp; done) | with_reducible assumption | with_reducible refine Bk.alloc ?_ _ | with_reducible refine Bk.drew ?_ | with_reducible refine Bk.drewN ?_ _ | with_reducible refine Bk.step ?_ (by with_reducible assumption) | with_reducible refine Bk.far ?_ (by first | omega | (simp; done) | (simp; omega)) _))
    clear hV
    refine (level_Check_is H0.out _).mono ?_; rintro e w1 ⟨rfl, hb1⟩
    replace q0 := q0.step hb1
    replace q1 := q1.step hb1
    replace q2 := q2.step hb1
    replace hb0 : Below w.heap.size w w1 := by (repeat (first | with_reducible exact Below.refl _ _ | with_reducible assumption | with_reducible refine Below.drew ?_ | with_reducible refine Below.drewN ?_ _ | with_reducible refine Below.alloc1 ?_ _ | with_reducible refine Below.setCell1 ?_ (by first | omega | (simp; done) | (simp; omega)) _ | with_reducible refine Below.step ?_ (by with_reducible assumption)))
    have q0_0 := q0.cell 0; have q0_f0 := q0.frozen 0; have q0_1 := q0.cell 1; have q0_f1 := q0.frozen 1; have q0_2 := q0.cell 2; have q0_f2 := q0.frozen 2; have q0_3 := q0.cell 3; have q0_f3 := q0.frozen 3; have q0_4 := q0.cell 4; have q0_f4 := q0.frozen 4; have q0_5 := q0.cell 5; have q0_f5 := q0.frozen 5; have q0_6 := q0.cell 6; have q0_f6 := q0.frozen 6; simp only [List.set_cons_zero, List.set_cons_succ, List.getElem?_cons_zero, List.getElem?_cons_succ] at q0_0 q0_1 q0_2 q0_3 q0_4 q0_5 q0_6
    have q1_0 := q1.cell 0; have q1_f0 := q1.frozen 0; have q1_1 := q1.cell 1; have q1_f1 := q1.frozen 1; have q1_2 := q1.cell 2; have q1_f2 := q1.frozen 2; simp only [List.set_cons_zero, List.set_cons_succ, List.getElem?_cons_zero, List.getElem?_cons_succ] at q1_0 q1_1 q1_2
    have q2_0 := q2.cell 0; have q2_f0 := q2.frozen 0; have q2_1 := q2.cell 1; have q2_f1 := q2.frozen 1; have q2_2 := q2.cell 2; have q2_f2 := q2.frozen 2; simp only [List.set_cons_zero, List.set_cons_succ, List.getElem?_cons_zero, List.getElem?_cons_succ] at q2_0 q2_1 q2_2
    have lw : w.heap.size < w1.heap.size ∧ w.heap.size + 1 < w1.heap.size ∧ w.heap.size + 1 + 1 < w1.heap.size := ⟨q0.lt, q1.lt, q2.lt⟩
    clear hb1
    go_wp2_with fail
    refine (level_Fine_is HF.out _).mono ?_; rintro e w2 ⟨rfl, hb2⟩; obtain ⟨hc_hb2, hf_hb2⟩ := bcell hb2; have hz_hb2 := hb2.size; (try simp at hz_hb2)
    have lw2 : w.heap.size < w2.heap.size ∧ w.heap.size + 1 < w2.heap.size ∧ w.heap.size + 1 + 1 < w2.heap.size := by omega
    go_wp2_with fail
    refine (HH0.out _).mono ?_; rintro e w' ⟨rfl, rfl⟩
    go_wp2_with fail
    refine (HH.out _).mono ?_; rintro e w' ⟨rfl, rfl⟩
    go_wp2_with fail
    refine (HAK.out _).mono ?_; rintro e w3 ⟨rfl, hb3⟩; obtain ⟨hc_hb3, hf_hb3⟩ := bcell hb3; have hz_hb3 := hb3.size; (try simp at hz_hb3)
    have lw3 : w.heap.size < w3.heap.size ∧ w.heap.size + 1 < w3.heap.size ∧ w.heap.size + 1 + 1 < w3.heap.size := by omega
    have hbw : Below w.heap.size w w3 := by (repeat (first | with_reducible exact Below.refl _ _ | with_reducible assumption | with_reducible refine Below.drew ?_ | with_reducible refine Below.drewN ?_ _ | with_reducible refine Below.alloc1 ?_ _ | with_reducible refine Below.setCell1 ?_ (by first | omega | (simp; done) | (simp; omega)) _ | with_reducible refine Below.step ?_ (by with_reducible assumption)))
    by_cases c1 : l < A
    · go_wp2_with fail
      exact bodyPost_ret (v := lsV X.1 X.2.1 X.2.2) (by rw [HX.out, if_pos c1]; simp only [results, Try.results7]; go_simp) rfl ⟨rfl, by (repeat (first | with_reducible exact Below.refl _ _ | with_reducible assumption | with_reducible refine Below.drew ?_ | with_reducible refine Below.drewN ?_ _ | with_reducible refine Below.alloc1 ?_ _ | with_reducible refine Below.setCell1 ?_ (by first | omega | (simp; done) | (simp; omega)) _ | with_reducible refine Below.step ?_ (by with_reducible assumption)))⟩
    · rcases Nat.eq_zero_or_pos l with hl0 | hl0
      · subst hl0
        have HX0 : Hid (X = (0, s, -1)) := by
          show _ = _
          rw [HX.out, if_neg c1, if_pos (Or.inl rfl)]; rfl
        go_wp2_with fail
        exact bodyPost_ret (v := lsV X.1 X.2.1 X.2.2) (by rw [HX0.out]; simp only [results, Try.results7]; go_simp) rfl ⟨rfl, by (repeat (first | with_reducible exact Below.refl _ _ | with_reducible assumption | with_reducible refine Below.drew ?_ | with_reducible refine Below.drewN ?_ _ | with_reducible refine Below.alloc1 ?_ _ | with_reducible refine Below.setCell1 ?_ (by first | omega | (simp; done) | (simp; omega)) _ | with_reducible refine Below.step ?_ (by with_reducible assumption)))⟩
      · obtain ⟨k, rfl⟩ : ∃ k, l = k + 1 := ⟨l - 1, by omega⟩
        have hk3 : k < 3 := by omega
        have hd := HLV.out k hk3
        have dc := dn_cell q0 hk3
        have HX2 : Hid (X = if dn k ≤ LD then (((k + 1 : Nat) : Int), s, -1) else if NW - (if v = -1 then NW else v) < hold then (((k + 1 : Nat) : Int), s, if v = -1 then NW else v) else (((k + 1 : Nat) : Int) - 1, NW, -1)) := by
          show _ = _
          rw [HX.out, if_neg c1]
          simp only [Nat.add_sub_cancel, show (k + 1 = 0) = False by simp, false_or]
        have HE : Hid (A = k + 1) := by show _ = _; omega
        by_cases c2 : dn k ≤ LD
        · go_wp2_with fail
          exact bodyPost_ret (v := lsV X.1 X.2.1 X.2.2) (by rw [HX2.out, if_pos c2]; simp only [results, Try.results7]; go_simp) rfl ⟨rfl, by (repeat (first | with_reducible exact Below.refl _ _ | with_reducible assumption | with_reducible refine Below.drew ?_ | with_reducible refine Below.drewN ?_ _ | with_reducible refine Below.alloc1 ?_ _ | with_reducible refine Below.setCell1 ?_ (by first | omega | (simp; done) | (simp; omega)) _ | with_reducible refine Below.step ?_ (by with_reducible assumption)))⟩
        · have HX3 : Hid (X = if NW - (if v = -1 then NW else v) < hold then (((k + 1 : Nat) : Int), s, if v = -1 then NW else v) else (((k + 1 : Nat) : Int) - 1, NW, -1)) := by rw [HX2.out, if_neg c2]; exact rfl
          replace c2 : LD < dn k := by omega
          by_cases c3 : v = -1
          · have c3' : (v == -1) = true := by simpa using c3
            have HV := hide c3
            have HX4 : Hid (X = if 0 < hold then (((k + 1 : Nat) : Int), s, NW) else (((k + 1 : Nat) : Int) - 1, NW, -1)) := by rw [HX3.out, if_pos c3, Int.sub_self]; exact rfl
            clear c3
            by_cases c4 : 0 < hold
            · go_wp2_with fail
              exact bodyPost_ret (v := lsV X.1 X.2.1 X.2.2) (by rw [HX4.out, if_pos c4]; simp only [results, Try.results7]; go_simp) rfl ⟨rfl, by (repeat (first | with_reducible exact Below.refl _ _ | with_reducible assumption | with_reducible refine Below.drew ?_ | with_reducible refine Below.drewN ?_ _ | with_reducible refine Below.alloc1 ?_ _ | with_reducible refine Below.setCell1 ?_ (by first | omega | (simp; done) | (simp; omega)) _ | with_reducible refine Below.step ?_ (by with_reducible assumption)))⟩
            · replace c4 : hold ≤ 0 := by omega
              go_wp2_with fail
              exact bodyPost_ret (v := lsV X.1 X.2.1 X.2.2) (by rw [HX4.out, if_neg (by omega)]; simp only [results, Try.results7]; go_simp) rfl ⟨rfl, by (repeat (first | with_reducible exact Below.refl _ _ | with_reducible assumption | with_reducible refine Below.drew ?_ | with_reducible refine Below.drewN ?_ _ | with_reducible refine Below.alloc1 ?_ _ | with_reducible refine Below.setCell1 ?_ (by first | omega | (simp; done) | (simp; omega)) _ | with_reducible refine Below.step ?_ (by with_reducible assumption)))⟩
          · have c3' : (v == -1) = false := by simpa using c3
            have HV := hide c3
            have HX4 : Hid (X = if NW - v < hold then (((k + 1 : Nat) : Int), s, v) else (((k + 1 : Nat) : Int) - 1, NW, -1)) := by rw [HX3.out, if_neg c3]; exact rfl
            clear c3
            by_cases c4 : NW - v < hold
            · go_wp2_with fail
              exact bodyPost_ret (v := lsV X.1 X.2.1 X.2.2) (by rw [HX4.out, if_pos c4]; simp only [results, Try.results7]; go_simp) rfl ⟨rfl, by (repeat (first | with_reducible exact Below.refl _ _ | with_reducible assumption | with_reducible refine Below.drew ?_ | with_reducible refine Below.drewN ?_ _ | with_reducible refine Below.alloc1 ?_ _ | with_reducible refine Below.setCell1 ?_ (by first | omega | (simp; done) | (simp; omega)) _ | with_reducible refine Below.step ?_ (by with_reducible assumption)))⟩
            · replace c4 : hold ≤ NW - v := by omega
              go_wp2_with fail
              exact bodyPost_ret (v := lsV X.1 X.2.1 X.2.2) (by rw [HX4.out, if_neg (by omega)]; simp only [results, Try.results7]; go_simp) rfl ⟨rfl, by (repeat (first | with_reducible exact Below.refl _ _ | with_reducible assumption | with_reducible refine Below.drew ?_ | with_reducible refine Below.drewN ?_ _ | with_reducible refine Below.alloc1 ?_ _ | with_reducible refine Below.setCell1 ?_ (by first | omega | (simp; done) | (simp; omega)) _ | with_reducible refine Below.step ?_ (by with_reducible assumption)))⟩


theorem level_Step_any (up dn : Nat → Int) (hold l s v load now : Int) (w : World) :
    Calls Try.prog 7 #[lcV up dn hold, lsV l s v, .int .i64 load, .int .i64 now] w fun e w' =>
      e = .returned (lsV (vStep up dn hold l s v load now).1 (vStep up dn hold l s v load now).2.1 (vStep up dn hold l s v load now).2.2) ∧ Below w.heap.size w w' := by
  cases hm : vMay up dn hold l s v
  · have e : vStep up dn hold l s v load now = (l, s, v) := by unfold vStep; rw [hm]; rfl
    rw [e]; exact level_Step_no hm load now w
  · have hm2 := hm
    simp only [vMay, Bool.and_eq_true, beq_iff_eq] at hm2
    have hf := vFine_t hm2.2
    obtain ⟨k, rfl⟩ : ∃ k : Nat, l = k := ⟨l.toNat, by omega⟩
    have e : vStep up dn hold k s v load now = vStep1 up dn hold k s v (vHeld load 0 100) (vHeld now (max s v) 1099511627776) := by unfold vStep; rw [hm, if_pos rfl, Int.toNat_natCast]
    rw [e]; exact level_Step_yes hm2.1 hm2.2 load now w
theorem level_Step_is {up dn : Nat → Int} {hold l s v load now : Int} {x : Int × Int × Int} (h : vStep up dn hold l s v load now = x) (w : World) :
    Calls Try.prog 7 #[lcV up dn hold, lsV l s v, .int .i64 load, .int .i64 now] w fun e w' => e = .returned (lsV x.1 x.2.1 x.2.2) ∧ Below w.heap.size w w' := by
  subst h; exact level_Step_any up dn hold l s v load now w

end Go.Proofs.Ytbajakifkidccaa
