/- Package drr: Leave. -/
import Derived.Test.YteblbleehnkcmaaDrr5
namespace Go.Proofs.Yteblbleehnkcmaa
open Go.RowKit Go.Sort
set_option linter.unusedSimpArgs false
set_option linter.unusedVariables false

theorem dCheck_ok {l : List Fl} {at_ : Int} {mid : Bool} (h : dCheck l at_ mid = 0) : l.length ≤ 16 ∧ l.any fWrong = false ∧ dOnce l = true ∧ 0 ≤ at_ ∧ at_ ≤ max (l.length : Int) 1 - 1 ∧ (l.length = 0 → mid = false) := by
  unfold dCheck at h
  by_cases h1 : 16 < l.length
  · rw [if_pos h1] at h; cases h
  rw [if_neg h1] at h
  cases h2 : l.any fWrong with
  | true => rw [h2] at h; simp at h
  | false =>
    rw [h2] at h
    cases h3 : dOnce l with
    | false => rw [h3] at h; simp at h
    | true =>
      rw [h3] at h
      cases h4 : dPlace l.length at_ mid with
      | false => rw [h4] at h; simp at h
      | true =>
        unfold dPlace dIn at h4
        simp at h4
        exact ⟨by omega, rfl, rfl, h4.1.1, h4.1.2, fun h0 => h4.2.resolve_right (by simpa using (List.length_eq_zero_iff.1 h0))⟩
theorem idxI_in {α : Type} (p : α → Bool) (l : List α) (h : idxI p l ≠ -1) : ∃ k : Nat, idxI p l = k ∧ k < l.length := by
  unfold idxI at h ⊢
  by_cases ha : l.any p = true
  · rw [if_pos ha]
    refine ⟨_, rfl, ?_⟩
    obtain ⟨x, hx, hp⟩ := List.any_eq_true.1 ha
    exact List.findIdx_lt_length_of_exists ⟨x, hx, hp⟩
  · rw [if_neg ha] at h; exact absurd rfl h
theorem own_cap {w : World} {base : Nat} {e : TypeId} {size g n c : Nat} {xs : List Value} (h : w.ownsRow base e size (.slice (some ⟨g, 0, none⟩) n c) n xs) : n ≤ c ∧ c ≤ 9223372036854775807 := by
  rcases h.2 with ⟨h0, _⟩ | ⟨g', cap, cur, hv, hb, hg, hn, hm, hs, hx⟩
  · cases h0
  · cases hv; exact ⟨hn, hm⟩
structure DSt where
  l : List Fl
  at_ : Int
  mid : Bool
def dLeave (l : List Fl) (at_ : Int) (mid : Bool) (id : Int) : DSt × Int :=
  if dCheck l at_ mid ≠ 0 then (⟨l, at_, mid⟩, dCheck l at_ mid)
  else if dFind l id = -1 then (⟨l, at_, mid⟩, 6)
  else
    let k := dFind l id
    let a := if k < at_ then at_ - 1 else at_
    (⟨l.eraseIdx k.toNat, if a = (l.length : Int) - 1 then 0 else a, if k = at_ then false else mid⟩, 0)
set_option maxRecDepth 100000 in
set_option maxHeartbeats 8000000 in
theorem drr_Leave_any (A : Option Addr) (c : Nat) (l : List Fl) (at_ : Int) (mid : Bool) (id : Int) (w : World) (hl : l.length ≤ 1000) (ha : Rd w w.heap.size A (flR l)) :
    Calls Try.prog 20 #[dsV A l.length c at_ mid, .int .i64 id] w fun e w' => ∃ V', e = .returned (.tuple #[V', .int .i64 (dLeave l at_ mid id).2]) ∧ DAt w' V' (dLeave l at_ mid id).1.l (dLeave l at_ mid id).1.at_ (dLeave l at_ mid id).1.mid ∧ Below w.heap.size w w' := by
  have hC := fun (W : World) (h : Below w.heap.size w W) => drr_Check_any A c l at_ mid W hl ((ha.below h).more h.size)
  have hF := fun (W : World) (h : Below w.heap.size w W) => drr_find_any A c l at_ mid id W hl ((ha.below h).more h.size)
  have hK := fun (W : World) (h : Below w.heap.size w W) => fl_Clone A c l W hl ((ha.below h).more h.size)
  go_enter Try.func20, Try.ntmps20
  go_wp2_with fail
  generalize hV : World.alloc (World.alloc w _) _ = w1
  have hb1 : Below w.heap.size w w1 := by subst hV; (repeat (first | with_reducible exact Below.refl _ _ | with_reducible assumption | with_reducible refine Below.drew ?_ | with_reducible refine Below.drewN ?_ _ | with_reducible refine Below.alloc1 ?_ _ | with_reducible refine Below.setCell1 ?_ (by first | omega | (simp; done) | (simp; omega)) _ | with_reducible refine Below.step ?_ (by with_reducible assumption)))
  have k0 : Bk w1 w.heap.size 31 (dsC A l.length c at_ mid) := by subst hV; (repeat (first | with_reducible exact Bk.new' _ _ _ _ (by simp; done) | with_reducible assumption | with_reducible refine Bk.alloc ?_ _ | with_reducible refine Bk.drew ?_ | with_reducible refine Bk.drewN ?_ _ | with_reducible refine Bk.step ?_ (by with_reducible assumption) | with_reducible refine Bk.far ?_ (by first | omega | (simp; done) | (simp; omega)) _))
  have k1 : Bk w1 (w.heap.size + 1) 31 (dsC none 0 0 0 false) := by subst hV; (repeat (first | with_reducible exact Bk.new' _ _ _ _ (by simp; done) | with_reducible assumption | with_reducible refine Bk.alloc ?_ _ | with_reducible refine Bk.drew ?_ | with_reducible refine Bk.drewN ?_ _ | with_reducible refine Bk.step ?_ (by with_reducible assumption) | with_reducible refine Bk.far ?_ (by first | omega | (simp; done) | (simp; omega)) _))
  clear hV
  refine (hC _ hb1).mono ?_; rintro e x0 ⟨rfl, hx0⟩
  replace k0 := k0.step hx0
  replace k1 := k1.step hx0
  replace hb1 : Below w.heap.size w x0 := hb1.step hx0
  clear hx0 hC
  have k0_0 := k0.cell 0; have k0_f0 := k0.frozen 0; have k0_1 := k0.cell 1; have k0_f1 := k0.frozen 1; have k0_2 := k0.cell 2; have k0_f2 := k0.frozen 2; simp only [List.set_cons_zero, List.set_cons_succ, List.getElem?_cons_zero, List.getElem?_cons_succ] at k0_0 k0_1 k0_2; have lt_k0 := k0.lt; have k1_0 := k1.cell 0; have k1_f0 := k1.frozen 0; have k1_1 := k1.cell 1; have k1_f1 := k1.frozen 1; have k1_2 := k1.cell 2; have k1_f2 := k1.frozen 2; simp only [List.set_cons_zero, List.set_cons_succ, List.getElem?_cons_zero, List.getElem?_cons_succ] at k1_0 k1_1 k1_2; have lt_k1 := k1.lt
  by_cases he : dCheck l at_ mid = 0
  · have hok := dCheck_ok he
    have hr1 : dLeave l at_ mid id = if dFind l id = -1 then (⟨l, at_, mid⟩, 6) else (⟨l.eraseIdx (dFind l id).toNat, if (if dFind l id < at_ then at_ - 1 else at_) = (l.length : Int) - 1 then 0 else (if dFind l id < at_ then at_ - 1 else at_), if dFind l id = at_ then false else mid⟩, 0) := by unfold dLeave; rw [if_neg (by simpa using he)]
    have HR := hide hr1
    rw [he]
    clear he hr1
    go_wp2_with fail
    refine (hF _ hb1).mono ?_; rintro e x4 ⟨rfl, hx4⟩
    replace k0 := k0.step hx4; (try clear k0_0 k0_f0 k0_1 k0_f1 k0_2 k0_f2); have k0_0 := k0.cell 0; have k0_f0 := k0.frozen 0; have k0_1 := k0.cell 1; have k0_f1 := k0.frozen 1; have k0_2 := k0.cell 2; have k0_f2 := k0.frozen 2; simp only [List.set_cons_zero, List.set_cons_succ, List.getElem?_cons_zero, List.getElem?_cons_succ] at k0_0 k0_1 k0_2; (try clear lt_k0); have lt_k0 := k0.lt; replace k1 := k1.step hx4; (try clear k1_0 k1_f0 k1_1 k1_f1 k1_2 k1_f2); have k1_0 := k1.cell 0; have k1_f0 := k1.frozen 0; have k1_1 := k1.cell 1; have k1_f1 := k1.frozen 1; have k1_2 := k1.cell 2; have k1_f2 := k1.frozen 2; simp only [List.set_cons_zero, List.set_cons_succ, List.getElem?_cons_zero, List.getElem?_cons_succ] at k1_0 k1_1 k1_2; (try clear lt_k1); have lt_k1 := k1.lt
    replace hb1 : Below w.heap.size w x4 := hb1.step hx4
    clear hx4 hF
    by_cases hf : dFind l id = -1
    · have hr := HR.out
      rw [if_pos hf] at hr
      rw [hf]
      clear HR hf
      go_wp2_with fail
      (try (try clear k0_0 k0_f0 k0_1 k0_f1 k0_2 k0_f2 lt_k0))
      (try clear k1_0 k1_f0 k1_1 k1_f1 k1_2 k1_f2 lt_k1)
      generalize hV : World.setCell (World.setCell (World.setCell x4 _ _) _ _) _ _ = w4
      have hb4 : Below w.heap.size w w4 := by subst hV; exact ((hb1.setCell (by dsimp only; omega) _).setCell (by dsimp only; omega) _).setCell (by dsimp only; omega) _
      replace k1 : Bk w4 (w.heap.size + 1) 31 (dsC A l.length c at_ mid) := by subst hV; exact ((k1.set_ 0 _).set_ 1 _).set_ 2 _
      clear hV
      have k1_0 := k1.cell 0; have k1_f0 := k1.frozen 0; have k1_1 := k1.cell 1; have k1_f1 := k1.frozen 1; have k1_2 := k1.cell 2; have k1_f2 := k1.frozen 2; simp only [List.set_cons_zero, List.set_cons_succ, List.getElem?_cons_zero, List.getElem?_cons_succ] at k1_0 k1_1 k1_2; have lt_k1 := k1.lt
      exact bodyPost_ret (v := .tuple #[dsV A l.length c at_ mid, .int .i64 6]) (by simp only [results, Try.results20]; go_simp) rfl ⟨_, by rw [hr], by rw [hr]; exact ⟨A, c, rfl, (ha.below hb4).more hb4.size⟩, hb4⟩
    · obtain ⟨k, hk, hkl⟩ := idxI_in _ _ hf
      change dFind l id = _ at hk
      obtain ⟨m, hm⟩ : ∃ m, l.length = m + 1 := ⟨l.length - 1, by omega⟩
      have hr := HR.out
      rw [if_neg hf, hk, hm] at hr
      rw [hk]
      have d0 : ((k : Int) == -1) = false := by rw [beq_eq_false_iff_ne]; omega
      replace HR := hide hr
      clear hf hr hk
      have hK2 := hK _ hb1
      rw [hm] at hK2
      have hm16 : m ≤ 1000 := by omega
      have hat : 0 ≤ at_ ∧ at_ ≤ (m : Int) := by have := hok.2.2.2; omega
      have hkm : k ≤ m := by omega
      have hm2 : l.length - 1 = m := by omega
      clear hok hK
      go_wp2_with fail
      have lx0 : w.heap.size < x4.heap.size := lt_k0
      have lx1 : w.heap.size + 1 < x4.heap.size := lt_k1
      refine hK2.mono ?_; rintro e x5 ⟨B, d, rfl, own5, hx5⟩
      clear hK2
      obtain ⟨g, d', he', hg4, hg5⟩ := own_some own5 (by omega)
      cases he'
      have hcap := own_cap own5
      have hbx := hx5.size
      replace k0 := k0.step hx5; (try clear k0_0 k0_f0 k0_1 k0_f1 k0_2 k0_f2); have k0_0 := k0.cell 0; have k0_f0 := k0.frozen 0; have k0_1 := k0.cell 1; have k0_f1 := k0.frozen 1; have k0_2 := k0.cell 2; have k0_f2 := k0.frozen 2; simp only [List.set_cons_zero, List.set_cons_succ, List.getElem?_cons_zero, List.getElem?_cons_succ] at k0_0 k0_1 k0_2; (try clear lt_k0); have lt_k0 := k0.lt; replace k1 := k1.step hx5; (try clear k1_0 k1_f0 k1_1 k1_f1 k1_2 k1_f2); have k1_0 := k1.cell 0; have k1_f0 := k1.frozen 0; have k1_1 := k1.cell 1; have k1_f1 := k1.frozen 1; have k1_2 := k1.cell 2; have k1_f2 := k1.frozen 2; simp only [List.set_cons_zero, List.set_cons_succ, List.getElem?_cons_zero, List.getElem?_cons_succ] at k1_0 k1_1 k1_2; (try clear lt_k1); have lt_k1 := k1.lt
      replace hb1 : Below w.heap.size w x5 := hb1.step hx5
      go_wp2_with fail
      refine (fl_Delete g d k m l x4.heap.size x5 hm hm16 hkm hcap hbx own5).mono ?_; rintro e x6 ⟨rfl, own6, hg6⟩
      (try clear k0_0 k0_f0 k0_1 k0_f1 k0_2 k0_f2 lt_k0) ; (try clear k1_0 k1_f0 k1_1 k1_f1 k1_2 k1_f2 lt_k1)
      replace k0 := Bk.gr k0 hg6 (by omega)
      replace k1 := Bk.gr k1 hg6 (by omega)
      replace hb1 : Below w.heap.size w x6 := hb1.trans ((Gr.below hg6 (B := w.heap.size) (by omega) (by omega)))
      have lt6 := hg6.size
      clear own5 hx5 hg6 hcap hbx
      have lg : w.heap.size + 1 < g := by omega
      have k0_0 := k0.cell 0; have k0_f0 := k0.frozen 0; have k0_1 := k0.cell 1; have k0_f1 := k0.frozen 1; have k0_2 := k0.cell 2; have k0_f2 := k0.frozen 2; simp only [List.set_cons_zero, List.set_cons_succ, List.getElem?_cons_zero, List.getElem?_cons_succ] at k0_0 k0_1 k0_2; have lt_k0 := k0.lt; have k1_0 := k1.cell 0; have k1_f0 := k1.frozen 0; have k1_1 := k1.cell 1; have k1_f1 := k1.frozen 1; have k1_2 := k1.cell 2; have k1_f2 := k1.frozen 2; simp only [List.set_cons_zero, List.set_cons_succ, List.getElem?_cons_zero, List.getElem?_cons_succ] at k1_0 k1_1 k1_2; have lt_k1 := k1.lt
      by_cases c1 : (k : Int) < at_
      · have d1 : (at_ - 1 == (m : Int)) = false := by rw [beq_eq_false_iff_ne]; omega
        have hr := HR.out
        rw [if_pos c1, if_neg (by omega), if_neg (by omega)] at hr
        clear HR
        go_wp2_with fail
        (try clear k0_0 k0_f0 k0_1 k0_f1 k0_2 k0_f2 lt_k0) ; (try clear k1_0 k1_f0 k1_1 k1_f1 k1_2 k1_f2 lt_k1)
        generalize hV : World.setCell (World.setCell (World.setCell _ _ _) _ _) _ _ = w8
        have hb8 : Below w.heap.size w w8 := by subst hV; (repeat first | with_reducible exact hb1 | refine Below.setCell ?_ (by dsimp only; omega) _)
        have m8 : Bk w8 (w.heap.size + 1) 31 (dsC (some ⟨g, 0, none⟩) m d (at_ - 1) (mid)) := by subst hV; refine Bk.set_ (Bk.set_ (Bk.set_ (cs := dsC none 0 0 0 false) ?_ 0 _) 1 _) 2 _; (repeat first | with_reducible exact k1 | refine Bk.far ?_ (by dsimp only; omega) _)
        have own8 : w8.ownsRow x4.heap.size 70 3 (.slice (some ⟨g, 0, none⟩) m d) m (flR (l.eraseIdx k)) := by subst hV; (repeat first | with_reducible exact own6 | refine own_far ?_ (by dsimp only; omega) _)
        clear hV own6 k0 k1
        have m8_0 := m8.cell 0; have m8_f0 := m8.frozen 0; have m8_1 := m8.cell 1; have m8_f1 := m8.frozen 1; have m8_2 := m8.cell 2; have m8_f2 := m8.frozen 2; simp only [List.set_cons_zero, List.set_cons_succ, List.getElem?_cons_zero, List.getElem?_cons_succ] at m8_0 m8_1 m8_2; have lt_m8 := m8.lt
        exact bodyPost_ret (v := .tuple #[dsV (some ⟨g, 0, none⟩) m d (at_ - 1) (mid), .int .i64 0]) (by simp only [results, Try.results20]; go_simp) rfl ⟨_, by rw [hr], by rw [hr]; exact ⟨some ⟨g, 0, none⟩, d, by dsimp only; rw [Int.toNat_natCast, List.length_eraseIdx_of_lt hkl, hm2], own_rd own8⟩, hb8⟩
      · have c2 : at_ ≤ (k : Int) := by omega
        by_cases c3 : (k : Int) = at_
        · subst c3
          have hr := HR.out
          clear HR c1 c2
          by_cases c4 : k = m
          · subst c4
            rw [if_neg (Int.lt_irrefl _), if_pos (by omega), if_pos rfl] at hr
            go_wp2_with fail
            (try clear k0_0 k0_f0 k0_1 k0_f1 k0_2 k0_f2 lt_k0) ; (try clear k1_0 k1_f0 k1_1 k1_f1 k1_2 k1_f2 lt_k1)
            generalize hV : World.setCell (World.setCell (World.setCell _ _ _) _ _) _ _ = w8
            have hb8 : Below w.heap.size w w8 := by subst hV; (repeat first | with_reducible exact hb1 | refine Below.setCell ?_ (by dsimp only; omega) _)
            have m8 : Bk w8 (w.heap.size + 1) 31 (dsC (some ⟨g, 0, none⟩) k d (0) (false)) := by subst hV; refine Bk.set_ (Bk.set_ (Bk.set_ (cs := dsC none 0 0 0 false) ?_ 0 _) 1 _) 2 _; (repeat first | with_reducible exact k1 | refine Bk.far ?_ (by dsimp only; omega) _)
            have own8 : w8.ownsRow x4.heap.size 70 3 (.slice (some ⟨g, 0, none⟩) k d) k (flR (l.eraseIdx k)) := by subst hV; (repeat first | with_reducible exact own6 | refine own_far ?_ (by dsimp only; omega) _)
            clear hV own6 k0 k1
            have m8_0 := m8.cell 0; have m8_f0 := m8.frozen 0; have m8_1 := m8.cell 1; have m8_f1 := m8.frozen 1; have m8_2 := m8.cell 2; have m8_f2 := m8.frozen 2; simp only [List.set_cons_zero, List.set_cons_succ, List.getElem?_cons_zero, List.getElem?_cons_succ] at m8_0 m8_1 m8_2; have lt_m8 := m8.lt
            exact bodyPost_ret (v := .tuple #[dsV (some ⟨g, 0, none⟩) k d (0) (false), .int .i64 0]) (by simp only [results, Try.results20]; go_simp) rfl ⟨_, by rw [hr], by rw [hr]; exact ⟨some ⟨g, 0, none⟩, d, by dsimp only; rw [Int.toNat_natCast, List.length_eraseIdx_of_lt hkl, hm2], own_rd own8⟩, hb8⟩
          · have d1 : ((k : Int) == (m : Int)) = false := by rw [beq_eq_false_iff_ne]; omega
            rw [if_neg (Int.lt_irrefl _), if_neg (by omega), if_pos rfl] at hr
            clear c4
            go_wp2_with fail
            (try clear k0_0 k0_f0 k0_1 k0_f1 k0_2 k0_f2 lt_k0) ; (try clear k1_0 k1_f0 k1_1 k1_f1 k1_2 k1_f2 lt_k1)
            generalize hV : World.setCell (World.setCell (World.setCell _ _ _) _ _) _ _ = w8
            have hb8 : Below w.heap.size w w8 := by subst hV; (repeat first | with_reducible exact hb1 | refine Below.setCell ?_ (by dsimp only; omega) _)
            have m8 : Bk w8 (w.heap.size + 1) 31 (dsC (some ⟨g, 0, none⟩) m d ((k : Int)) (false)) := by subst hV; refine Bk.set_ (Bk.set_ (Bk.set_ (cs := dsC none 0 0 0 false) ?_ 0 _) 1 _) 2 _; (repeat first | with_reducible exact k1 | refine Bk.far ?_ (by dsimp only; omega) _)
            have own8 : w8.ownsRow x4.heap.size 70 3 (.slice (some ⟨g, 0, none⟩) m d) m (flR (l.eraseIdx k)) := by subst hV; (repeat first | with_reducible exact own6 | refine own_far ?_ (by dsimp only; omega) _)
            clear hV own6 k0 k1
            have m8_0 := m8.cell 0; have m8_f0 := m8.frozen 0; have m8_1 := m8.cell 1; have m8_f1 := m8.frozen 1; have m8_2 := m8.cell 2; have m8_f2 := m8.frozen 2; simp only [List.set_cons_zero, List.set_cons_succ, List.getElem?_cons_zero, List.getElem?_cons_succ] at m8_0 m8_1 m8_2; have lt_m8 := m8.lt
            exact bodyPost_ret (v := .tuple #[dsV (some ⟨g, 0, none⟩) m d ((k : Int)) (false), .int .i64 0]) (by simp only [results, Try.results20]; go_simp) rfl ⟨_, by rw [hr], by rw [hr]; exact ⟨some ⟨g, 0, none⟩, d, by dsimp only; rw [Int.toNat_natCast, List.length_eraseIdx_of_lt hkl, hm2], own_rd own8⟩, hb8⟩
        · have hr := HR.out
          rw [if_neg c1, if_neg (by omega), if_neg c3] at hr
          have d1 : (at_ == (m : Int)) = false := by rw [beq_eq_false_iff_ne]; omega
          have d2 : ((k : Int) == at_) = false := by rw [beq_eq_false_iff_ne]; omega
          clear HR c1 c3
          go_wp2_with fail
          (try clear k0_0 k0_f0 k0_1 k0_f1 k0_2 k0_f2 lt_k0) ; (try clear k1_0 k1_f0 k1_1 k1_f1 k1_2 k1_f2 lt_k1)
          generalize hV : World.setCell (World.setCell (World.setCell _ _ _) _ _) _ _ = w8
          have hb8 : Below w.heap.size w w8 := by subst hV; (repeat first | with_reducible exact hb1 | refine Below.setCell ?_ (by dsimp only; omega) _)
          have m8 : Bk w8 (w.heap.size + 1) 31 (dsC (some ⟨g, 0, none⟩) m d (at_) (mid)) := by subst hV; refine Bk.set_ (Bk.set_ (Bk.set_ (cs := dsC none 0 0 0 false) ?_ 0 _) 1 _) 2 _; (repeat first | with_reducible exact k1 | refine Bk.far ?_ (by dsimp only; omega) _)
          have own8 : w8.ownsRow x4.heap.size 70 3 (.slice (some ⟨g, 0, none⟩) m d) m (flR (l.eraseIdx k)) := by subst hV; (repeat first | with_reducible exact own6 | refine own_far ?_ (by dsimp only; omega) _)
          clear hV own6 k0 k1
          have m8_0 := m8.cell 0; have m8_f0 := m8.frozen 0; have m8_1 := m8.cell 1; have m8_f1 := m8.frozen 1; have m8_2 := m8.cell 2; have m8_f2 := m8.frozen 2; simp only [List.set_cons_zero, List.set_cons_succ, List.getElem?_cons_zero, List.getElem?_cons_succ] at m8_0 m8_1 m8_2; have lt_m8 := m8.lt
          exact bodyPost_ret (v := .tuple #[dsV (some ⟨g, 0, none⟩) m d (at_) (mid), .int .i64 0]) (by simp only [results, Try.results20]; go_simp) rfl ⟨_, by rw [hr], by rw [hr]; exact ⟨some ⟨g, 0, none⟩, d, by dsimp only; rw [Int.toNat_natCast, List.length_eraseIdx_of_lt hkl, hm2], own_rd own8⟩, hb8⟩
  · have hr : dLeave l at_ mid id = (⟨l, at_, mid⟩, dCheck l at_ mid) := by unfold dLeave; rw [if_pos he]
    have hne : (dCheck l at_ mid != 0) = true := by simpa using he
    generalize dCheck l at_ mid = ec at *
    clear he
    go_wp2_with fail
    (try (try clear k0_0 k0_f0 k0_1 k0_f1 k0_2 k0_f2 lt_k0))
    (try clear k1_0 k1_f0 k1_1 k1_f1 k1_2 k1_f2 lt_k1)
    generalize hV : World.setCell (World.setCell (World.setCell x0 _ _) _ _) _ _ = w4
    have hb4 : Below w.heap.size w w4 := by subst hV; exact ((hb1.setCell (by dsimp only; omega) _).setCell (by dsimp only; omega) _).setCell (by dsimp only; omega) _
    replace k1 : Bk w4 (w.heap.size + 1) 31 (dsC A l.length c at_ mid) := by subst hV; exact ((k1.set_ 0 _).set_ 1 _).set_ 2 _
    clear hV
    have k1_0 := k1.cell 0; have k1_f0 := k1.frozen 0; have k1_1 := k1.cell 1; have k1_f1 := k1.frozen 1; have k1_2 := k1.cell 2; have k1_f2 := k1.frozen 2; simp only [List.set_cons_zero, List.set_cons_succ, List.getElem?_cons_zero, List.getElem?_cons_succ] at k1_0 k1_1 k1_2; have lt_k1 := k1.lt
    exact bodyPost_ret (v := .tuple #[dsV A l.length c at_ mid, .int .i64 ec]) (by simp only [results, Try.results20]; go_simp) rfl ⟨_, by rw [hr], by rw [hr]; exact ⟨A, c, rfl, (ha.below hb4).more hb4.size⟩, hb4⟩
end Go.Proofs.Yteblbleehnkcmaa
