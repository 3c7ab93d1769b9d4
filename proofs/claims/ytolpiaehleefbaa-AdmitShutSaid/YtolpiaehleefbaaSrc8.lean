/- Package source: Take. -/
import Derived.Test.YtolpiaehleefbaaSrc7
import Derived.Deep.DeepCutAuto
namespace Go.Proofs.Ytolpiaehleefbaa
open Go.RowKit Go.Sort
set_option linter.unusedSimpArgs false
set_option linter.unusedVariables false

theorem eOrd_pw (l : List En) : eOrd l = true ↔ l.Pairwise fun x y => x.s < y.s := by
  constructor
  · intro h
    rw [List.pairwise_iff_getElem]
    intro i j hi hj hij
    exact eOrd_lt h hij hj
  · intro h
    induction l with
    | nil => rfl
    | cons x r ih =>
      cases r with
      | nil => rfl
      | cons y r =>
        rw [List.pairwise_cons] at h
        unfold eOrd
        rw [ih h.2, decide_eq_true (h.1 y (by simp))]
        rfl
theorem eClean_ok {b r : Int} {l : List En} (now : Int) (h : eCheck b r l = 0) : eCheck b r (eClean b r l now) = 0 := by
  obtain ⟨h1, h2, h3, h4⟩ := eCheck_ok h
  unfold eClean
  rw [if_neg (by simp [h])]
  refine eCheck_of h1 (Nat.le_trans (List.length_filter_le _ _) h2) (fun x hx => h3 x (List.mem_filter.1 hx).1) ?_
  rw [eOrd_pw] at *
  exact h4.filter _
def ePut (m : List En) (s : Int) (x : Int × Int) : List En := if hasB m s = true then m.set (lowB m s) ⟨s, x.1, x.2⟩ else m.take (lowB m s) ++ ⟨s, x.1, x.2⟩ :: m.drop (lowB m s)
def eTake2 (b r : Int) (m : List En) (s now : Int) : List En × Int :=
  if hasB m s = false ∧ m.length = 8 then (m, 7) else
  if (bTake b r (eOf b m s now).1 (eOf b m s now).2 now 1).2 = false then (m, 14) else (ePut m s (bTake b r (eOf b m s now).1 (eOf b m s now).2 now 1).1, 0)
def eTake (b r : Int) (l : List En) (s now : Int) : List En × Int :=
  if eCheck b r l ≠ 0 then (l, eCheck b r l) else if sMay s = false then (l, 2) else eTake2 b r (eClean b r l now) s now
theorem own_en_set2 {w : World} {base g c n : Nat} {m : List En} (own : w.ownsRow base 146 3 (.slice (some ⟨g, 0, none⟩) n c) n (enR m)) {i : Nat} (hi : i < m.length) (s t a : Int) (hs : m[i].s = s) :
    ((w.setCell ⟨g, i * 3 + 1, none⟩ (.int .i64 t)).setCell ⟨g, i * 3 + 2, none⟩ (.int .i64 a)).ownsRow base 146 3 (.slice (some ⟨g, 0, none⟩) n c) n (enR (m.set i ⟨s, t, a⟩)) := by
  have h0 : (enR m).set (i * 3) (.int .i64 s) = enR m := by
    apply List.ext_getElem?
    intro j
    rw [List.getElem?_set]
    split
    · rename_i h; subst h
      rw [(enR_get m i hi).1, hs, if_pos (by rw [enR_length]; omega)]
    · rfl
  rw [← enR_set3 m i ⟨s, t, a⟩ hi]
  dsimp only
  rw [h0]
  exact (World.ownsRow.stored (World.ownsRow.stored own _ _).1 _ _).1
abbrev STk (n : Nat) (e : Int) (d : Nat) (B : Option Addr) : Value := .tuple #[.slice B n d, .int .i64 e]
set_option maxRecDepth 100000 in
set_option maxHeartbeats 8000000 in
theorem source_Take_own (A : Option Addr) (c : Nat) (b r : Int) (l : List En) (s now : Int) (w : World) (hl : l.length ≤ 1000) (ha : Rd w w.heap.size A (enR l)) :
    Calls Try.prog 32 #[.agg #[.int .i64 b, .int .i64 r], .slice A l.length c, .int .i64 s, .int .i64 now] w fun e w' => ∃ B d, e = .returned (STk (eTake b r l s now).1.length (eTake b r l s now).2 d B) ∧ w'.ownsRow w.heap.size 146 3 (.slice B (eTake b r l s now).1.length d) (eTake b r l s now).1.length (enR (eTake b r l s now).1) ∧ Below w.heap.size w w' := by
  have hC := fun (W : World) (h : Below w.heap.size w W) => source_Check_any A c b r l W hl ((ha.below h).more h.size)
  have hK := fun (W : World) (h : Below w.heap.size w W) => en_Clone A c l W hl ((ha.below h).more h.size)
  by_cases he : eCheck b r l = 0
  · cases hm : sMay s with
    | false =>
      have hr : eTake b r l s now = (l, 2) := by unfold eTake; rw [if_neg (by simp [he]), if_pos hm]
      have hM := fun w => source_may_any s w
      rw [hr]
      rw [hm] at hM
      rw [he] at hC
      clear he hm hr
      dsimp only
      go_enter Try.func32, Try.ntmps32
      go_wp2_with fail
      generalize hV : World.alloc w _ = w1
      have hb1 : Below w.heap.size w w1 := by subst hV; (repeat (first | with_reducible exact Below.refl _ _ | with_reducible assumption | with_reducible refine Below.drew ?_ | with_reducible refine Below.drewN ?_ _ | with_reducible refine Below.alloc1 ?_ _ | with_reducible refine Below.setCell1 ?_ (by first | omega | (simp; done) | (simp; omega)) _ | with_reducible refine Below.step ?_ (by with_reducible assumption)))
      clear hV
      refine (hC _ hb1).mono ?_; rintro e x0 ⟨rfl, hx0⟩
      replace hb1 : Below w.heap.size w x0 := hb1.step hx0
      clear hx0
      go_wp2_with fail
      refine (hM _).mono ?_; rintro e x1 ⟨rfl, rfl⟩
      go_wp2_with fail
      refine (hK _ hb1).mono ?_; rintro e x2 ⟨B, d, rfl, own, hx2⟩
      replace own := own_base14 own hb1.size
      replace hb1 : Below w.heap.size w x2 := hb1.step hx2
      go_wp2
      exact bodyPost_ret (v := STk l.length 2 d B) (by simp only [results, Try.results32]; go_simp) rfl ⟨B, d, rfl, own, hb1⟩
    | true =>
      have hr : eTake b r l s now = eTake2 b r (eClean b r l now) s now := by unfold eTake; rw [if_neg (by simp [he]), if_neg (by rw [hm]; simp)]
      have hM := fun w => source_may_any s w
      have hL := fun (W : World) (h : Below w.heap.size w W) => source_Clean_any A c b r l now W hl ((ha.below h).more h.size)
      have hmok := eClean_ok now he
      have hml : (eClean b r l now).length ≤ l.length := by unfold eClean; split; exact Nat.le_refl _; exact List.length_filter_le _ _
      have hS := sMay_t hm
      rw [hr]
      rw [hm] at hM
      rw [he] at hC
      clear he hm hr
      generalize eClean b r l now = m at *
      have hmo := EOk.of hmok
      clear hmok
      have HO := hide hmo
      have HS := hide hS
      clear hmo hS
      go_enter Try.func32, Try.ntmps32
      go_wp2_with fail
      generalize hV : World.alloc w _ = w1
      have hb1 : Below w.heap.size w w1 := by subst hV; (repeat (first | with_reducible exact Below.refl _ _ | with_reducible assumption | with_reducible refine Below.drew ?_ | with_reducible refine Below.drewN ?_ _ | with_reducible refine Below.alloc1 ?_ _ | with_reducible refine Below.setCell1 ?_ (by first | omega | (simp; done) | (simp; omega)) _ | with_reducible refine Below.step ?_ (by with_reducible assumption)))
      have k0 : Bk w1 w.heap.size 40 [.int .i64 b, .int .i64 r] := by subst hV; (repeat (first | with_reducible exact Bk.new' _ _ _ _ (by simp; done) | with_reducible assumption | with_reducible refine Bk.alloc ?_ _ | with_reducible refine Bk.drew ?_ | with_reducible refine Bk.drewN ?_ _ | with_reducible refine Bk.step ?_ (by with_reducible assumption) | with_reducible refine Bk.far ?_ (by first | omega | (simp; done) | (simp; omega)) _))
      clear hV
      refine (hC _ hb1).mono ?_; rintro e x0 ⟨rfl, hx0⟩
      replace k0 := k0.step hx0; (try clear k0_0 k0_f0 k0_1 k0_f1); have k0_0 := k0.cell 0; have k0_f0 := k0.frozen 0; have k0_1 := k0.cell 1; have k0_f1 := k0.frozen 1; simp only [List.set_cons_zero, List.set_cons_succ, List.getElem?_cons_zero, List.getElem?_cons_succ] at k0_0 k0_1; (try clear lt_k0); have lt_k0 := k0.lt
      replace hb1 : Below w.heap.size w x0 := hb1.step hx0
      clear hx0 hC
      go_wp2_with fail
      refine (hM _).mono ?_; rintro e x1 ⟨rfl, rfl⟩
      go_wp2_with fail
      refine (hL _ hb1).mono ?_; rintro e x2 ⟨B, d, rfl, own, hx2⟩
      replace k0 := k0.step hx2; (try clear k0_0 k0_f0 k0_1 k0_f1); have k0_0 := k0.cell 0; have k0_f0 := k0.frozen 0; have k0_1 := k0.cell 1; have k0_f1 := k0.frozen 1; simp only [List.set_cons_zero, List.set_cons_succ, List.getElem?_cons_zero, List.getElem?_cons_succ] at k0_0 k0_1; (try clear lt_k0); have lt_k0 := k0.lt
      replace own := own_base14 own hb1.size
      replace hb1 : Below w.heap.size w x2 := hb1.step hx2
      have hsz := hx2.size
      clear hx2 hM hL hK
      have rB := own_rd own
      go_wp2_with fail
      refine (source_find_any B d m s _ HO.out HS.out rB).mono ?_; rintro e x3 ⟨rfl, hx3⟩
      replace k0 := k0.step hx3; (try clear k0_0 k0_f0 k0_1 k0_f1); have k0_0 := k0.cell 0; have k0_f0 := k0.frozen 0; have k0_1 := k0.cell 1; have k0_f1 := k0.frozen 1; simp only [List.set_cons_zero, List.set_cons_succ, List.getElem?_cons_zero, List.getElem?_cons_succ] at k0_0 k0_1; (try clear lt_k0); have lt_k0 := k0.lt
      replace hb1 : Below w.heap.size w x3 := hb1.step hx3
      replace own := own_below own hx3 (Nat.le_refl _)
      replace rB := rB.step hx3
      clear hx3
      have hOf := fun (W : World) (h : Below x3.heap.size x3 W) => source_of_any B d b r m s now W HO.out HS.out (rB.step h)
      have HM8 := hide hml
      have HE := hide (show eTake2 b r m s now = if hasB m s = false ∧ m.length = 8 then (m, 7) else if (bTake b r (eOf b m s now).1 (eOf b m s now).2 now 1).2 = false then (m, 14) else (ePut m s (bTake b r (eOf b m s now).1 (eOf b m s now).2 now 1).1, 0) from rfl)
      have hT := fun t a W => bucket_Take_tup b r t a now 1 (by omega) W
      generalize eOf b m s now = E at *
      obtain ⟨t, a⟩ := E
      unfold stV at hOf
      dsimp only at hOf HE
      replace hT := hT t a
      generalize bTake b r t a now 1 = P at *
      obtain ⟨⟨t', a'⟩, f⟩ := P
      dsimp only at hT HE
      have hml : m.length ≤ 1000 := Nat.le_trans HM8.out hl
      cases hq : hasB m s with
      | true =>
        have HR1 := hide (fun (h : f = false) => show eTake2 b r m s now = (m, 14) from by rw [HE.out, if_neg (by rw [hq]; simp), if_pos h])
        have HR2 := hide (fun (h : f = true) => show eTake2 b r m s now = (ePut m s (t', a'), 0) from by rw [HE.out, if_neg (by rw [hq]; simp), if_neg (by rw [h]; simp)])
        have hlt := hasB_lt hq
        have hks : m[lowB m s].s = s := by have := hasB_at hlt; rw [hq] at this; simpa using this.symm
        have HP := hide (show ePut m s (t', a') = m.set (lowB m s) ⟨s, t', a'⟩ from by unfold ePut; rw [if_pos hq])
        generalize lowB m s = k at *
        clear hq HE
        go_upto_region 10 with fail
        go_cut [14, 15] from 47 to 74 (fun v14 v15 wx => ∃ gx, v14 = .pointer (some ⟨gx, 0, none⟩) ∧ v15 = .bool f ∧ x3.heap.size ≤ gx ∧ Bk wx gx 46 [.int .i64 t', .int .i64 a'] ∧ Below x3.heap.size x3 wx)
        case first =>
          have HS : Hid (∀ w' : World, Below (x3.heap.size) x3 w' → (w'.cell? ⟨w.heap.size, 0, none⟩ = some (.int .i64 b) ∧ w'.cell? ⟨w.heap.size, 1, none⟩ = some (.int .i64 r)) ∧ x3.heap.size ≤ w'.heap.size ∧ Below (x3.heap.size) x3 w') := fun w' hB => ⟨⟨(hB.cell (p := ⟨w.heap.size, 0, none⟩) (by dsimp only; omega)).trans (k0_0), (hB.cell (p := ⟨w.heap.size, 1, none⟩) (by dsimp only; omega)).trans (k0_1)⟩, hB.size, hB⟩; go_region_held3 (fun w' => (w'.cell? ⟨w.heap.size, 0, none⟩ = some (.int .i64 b) ∧ w'.cell? ⟨w.heap.size, 1, none⟩ = some (.int .i64 r)) ∧ x3.heap.size ≤ w'.heap.size ∧ Below (x3.heap.size) x3 w') ((go_split_ands; exact HS.out _ (by (repeat (first | with_reducible exact Below.refl _ _ | with_reducible assumption | with_reducible refine Below.drew ?_ | with_reducible refine Below.drewN ?_ _ | with_reducible refine Below.alloc ?_ (by first | omega | (simp; done) | (simp; omega)) _ | with_reducible refine Below.setCell ?_ (by first | omega | (simp; done) | (simp; omega)) _ | with_reducible refine Below.then_ ?_ (by with_reducible assumption) (by first | omega | (simp; done) | (simp; omega))))))) ((first | (go_at_call 76; refine (hOf _ (by (repeat (first | with_reducible exact Below.refl _ _ | with_reducible assumption | with_reducible refine Below.drew ?_ | with_reducible refine Below.drewN ?_ _ | with_reducible refine Below.alloc1 ?_ _ | with_reducible refine Below.setCell1 ?_ (by first | omega | (simp; done) | (simp; omega)) _ | with_reducible refine Below.step ?_ (by with_reducible assumption))))).mono ?_; rintro e w5 ⟨rfl, hy5⟩; obtain ⟨hc_hy5, hf_hy5⟩ := bcell hy5; have hz_hy5 := hy5.size; (try simp at hz_hy5); (try have lt_w5_x3_0 : x3.heap.size < w5.heap.size := by omega); (try have lt_w5_x3_1 : x3.heap.size + 1 < w5.heap.size := by omega); (try have lt_w5_x3_2 : x3.heap.size + 1 + 1 < w5.heap.size := by omega)) | (go_at_call 31; refine (hT _).mono ?_; rintro e w6 ⟨rfl, hy6⟩; obtain ⟨hc_hy6, hf_hy6⟩ := bcell hy6; have hz_hy6 := hy6.size; (try simp at hz_hy6); (try have lt_w6_x3_0 : x3.heap.size < w6.heap.size := by omega); (try have lt_w6_x3_1 : x3.heap.size + 1 < w6.heap.size := by omega); (try have lt_w6_x3_2 : x3.heap.size + 1 + 1 < w6.heap.size := by omega))))
          all_goals
            go_wp2_with fail
            go_meet
            have hs56 := hy5.size
            have hs66 := hy6.size
            (try simp at hs56); (try simp at hs66)
            first
              | exact ⟨_, rfl, rfl, by omega, Bk.new' w6 46 [.int .i64 t', .int .i64 a'] _ rfl, by (repeat (first | with_reducible exact Below.refl _ _ | with_reducible assumption | with_reducible refine Below.drew ?_ | with_reducible refine Below.drewN ?_ _ | with_reducible refine Below.alloc1 ?_ _ | with_reducible refine Below.setCell1 ?_ (by first | omega | (simp; done) | (simp; omega)) _ | with_reducible refine Below.step ?_ (by with_reducible assumption)))⟩
              | exact ⟨_, rfl, rfl, by omega, (((Bk.new _ 46 [.int .i64 0, .int .i64 0]).step hy6).set_ 0 _).set_ 1 _, by refine Below.setCell1 (Below.setCell1 ?_ (by dsimp only; omega) _) (by dsimp only; omega) _; (repeat (first | with_reducible exact Below.refl _ _ | with_reducible assumption | with_reducible refine Below.drew ?_ | with_reducible refine Below.drewN ?_ _ | with_reducible refine Below.alloc1 ?_ _ | with_reducible refine Below.setCell1 ?_ (by first | omega | (simp; done) | (simp; omega)) _ | with_reducible refine Below.step ?_ (by with_reducible assumption)))⟩
              | exact ⟨_, rfl, rfl, by omega, (((Bk.drew (Bk.new _ 46 [.int .i64 0, .int .i64 0])).step hy5).step hy6 |>.set_ 0 _).set_ 1 _, by refine Below.setCell1 (Below.setCell1 ?_ (by dsimp only; omega) _) (by dsimp only; omega) _; (repeat (first | with_reducible exact Below.refl _ _ | with_reducible assumption | with_reducible refine Below.drew ?_ | with_reducible refine Below.drewN ?_ _ | with_reducible refine Below.alloc1 ?_ _ | with_reducible refine Below.setCell1 ?_ (by first | omega | (simp; done) | (simp; omega)) _ | with_reducible refine Below.step ?_ (by with_reducible assumption)))⟩
        case rest =>
          obtain ⟨gx, rfl, rfl, hgx, kx, hyc⟩ := hcut
          replace hb1 : Below w.heap.size w wc := hb1.step hyc
          replace own := own_below own hyc (Nat.le_refl _)
          have hzc := hyc.size
          replace rB := rB.step hyc
          (try clear k0_0 k0_f0 k0_1 k0_f1 lt_k0)
          clear k0 hyc hOf hT
          have kx_0 := kx.cell 0; have kx_f0 := kx.frozen 0; have kx_1 := kx.cell 1; have kx_f1 := kx.frozen 1; simp only [List.set_cons_zero, List.set_cons_succ, List.getElem?_cons_zero, List.getElem?_cons_succ] at kx_0 kx_1; have lt_kx := kx.lt
          cases f with
          | false =>
            have hR := hide (HR1.out rfl)
            clear HR1 HR2 HP
            go_wp2
            refine bodyPost_ret (v := STk m.length 14 d B) (by simp only [results, Try.results32]; go_simp) rfl ?_
            rw [hR.out]
            exact ⟨B, d, rfl, own, hb1⟩
          | true =>
            have hR := hide (HR2.out rfl)
            obtain ⟨g, cB, hB, hgb, hgl⟩ := own_some own (by omega)
            injection hB with hB _ hc
            subst hB hc
            have d1 := (own_en own rfl hlt).2.1
            have d2 := (own_en own rfl hlt).2.2
            have f1 := own.frozenAt (k * 3 + 1)
            have f2 := own.frozenAt (k * 3 + 2)
            have own7 := own_en_set2 own hlt s t' a' hks
            have hkl : (k : Int) < (m.length : Int) := by omega
            clear HR1 HR2 hks
            go_wp2
            refine bodyPost_ret (v := STk m.length 0 d (some ⟨g, 0, none⟩)) (by simp only [results, Try.results32]; go_simp) rfl ?_
            rw [hR.out, HP.out, List.length_set]
            exact ⟨_, d, rfl, own7, (hb1.setCell hgb _).setCell hgb _⟩
      | false =>
        by_cases h8 : m.length = 8
        · have hR : eTake2 b r m s now = (m, 7) := by rw [HE.out, if_pos ⟨hq, h8⟩]
          have h8b : ((m.length : Int) == 8) = true := by rw [beq_iff_eq]; omega
          have H8 := hide h8
          have HR := hide hR
          clear h8 hR HE hq hOf hT
          go_wp2
          refine bodyPost_ret (v := STk m.length 7 d B) (by simp only [results, Try.results32]; go_simp) rfl ?_
          rw [HR.out]
          exact ⟨B, d, rfl, own, hb1⟩
        have h8b : ((m.length : Int) == 8) = false := by rw [beq_eq_false_iff_ne]; omega
        have HR1 := hide (fun (h : f = false) => show eTake2 b r m s now = (m, 14) from by rw [HE.out, if_neg (fun h => h8 h.2), if_pos h])
        have HR2 := hide (fun (h : f = true) => show eTake2 b r m s now = (ePut m s (t', a'), 0) from by rw [HE.out, if_neg (fun h => h8 h.2), if_neg (by rw [h]; simp)])
        have HP := hide (show ePut m s (t', a') = m.take (lowB m s) ++ ⟨s, t', a'⟩ :: m.drop (lowB m s) from by unfold ePut; rw [if_neg (by rw [hq]; simp)])
        have hkl := lowB_le m s
        generalize lowB m s = k at *
        clear hq HE h8
        go_upto_region 10 with fail
        go_cut [14, 15] from 47 to 74 (fun v14 v15 wx => ∃ gx, v14 = .pointer (some ⟨gx, 0, none⟩) ∧ v15 = .bool f ∧ x3.heap.size ≤ gx ∧ Bk wx gx 46 [.int .i64 t', .int .i64 a'] ∧ Below x3.heap.size x3 wx)
        case first =>
          have HS : Hid (∀ w' : World, Below (x3.heap.size) x3 w' → (w'.cell? ⟨w.heap.size, 0, none⟩ = some (.int .i64 b) ∧ w'.cell? ⟨w.heap.size, 1, none⟩ = some (.int .i64 r)) ∧ x3.heap.size ≤ w'.heap.size ∧ Below (x3.heap.size) x3 w') := fun w' hB => ⟨⟨(hB.cell (p := ⟨w.heap.size, 0, none⟩) (by dsimp only; omega)).trans (k0_0), (hB.cell (p := ⟨w.heap.size, 1, none⟩) (by dsimp only; omega)).trans (k0_1)⟩, hB.size, hB⟩; go_region_held3 (fun w' => (w'.cell? ⟨w.heap.size, 0, none⟩ = some (.int .i64 b) ∧ w'.cell? ⟨w.heap.size, 1, none⟩ = some (.int .i64 r)) ∧ x3.heap.size ≤ w'.heap.size ∧ Below (x3.heap.size) x3 w') ((go_split_ands; exact HS.out _ (by (repeat (first | with_reducible exact Below.refl _ _ | with_reducible assumption | with_reducible refine Below.drew ?_ | with_reducible refine Below.drewN ?_ _ | with_reducible refine Below.alloc ?_ (by first | omega | (simp; done) | (simp; omega)) _ | with_reducible refine Below.setCell ?_ (by first | omega | (simp; done) | (simp; omega)) _ | with_reducible refine Below.then_ ?_ (by with_reducible assumption) (by first | omega | (simp; done) | (simp; omega))))))) ((first | (go_at_call 76; refine (hOf _ (by (repeat (first | with_reducible exact Below.refl _ _ | with_reducible assumption | with_reducible refine Below.drew ?_ | with_reducible refine Below.drewN ?_ _ | with_reducible refine Below.alloc1 ?_ _ | with_reducible refine Below.setCell1 ?_ (by first | omega | (simp; done) | (simp; omega)) _ | with_reducible refine Below.step ?_ (by with_reducible assumption))))).mono ?_; rintro e w5 ⟨rfl, hy5⟩; obtain ⟨hc_hy5, hf_hy5⟩ := bcell hy5; have hz_hy5 := hy5.size; (try simp at hz_hy5); (try have lt_w5_x3_0 : x3.heap.size < w5.heap.size := by omega); (try have lt_w5_x3_1 : x3.heap.size + 1 < w5.heap.size := by omega); (try have lt_w5_x3_2 : x3.heap.size + 1 + 1 < w5.heap.size := by omega)) | (go_at_call 31; refine (hT _).mono ?_; rintro e w6 ⟨rfl, hy6⟩; obtain ⟨hc_hy6, hf_hy6⟩ := bcell hy6; have hz_hy6 := hy6.size; (try simp at hz_hy6); (try have lt_w6_x3_0 : x3.heap.size < w6.heap.size := by omega); (try have lt_w6_x3_1 : x3.heap.size + 1 < w6.heap.size := by omega); (try have lt_w6_x3_2 : x3.heap.size + 1 + 1 < w6.heap.size := by omega))))
          all_goals
            go_wp2_with fail
            go_meet
            have hs56 := hy5.size
            have hs66 := hy6.size
            (try simp at hs56); (try simp at hs66)
            first
              | exact ⟨_, rfl, rfl, by omega, Bk.new' w6 46 [.int .i64 t', .int .i64 a'] _ rfl, by (repeat (first | with_reducible exact Below.refl _ _ | with_reducible assumption | with_reducible refine Below.drew ?_ | with_reducible refine Below.drewN ?_ _ | with_reducible refine Below.alloc1 ?_ _ | with_reducible refine Below.setCell1 ?_ (by first | omega | (simp; done) | (simp; omega)) _ | with_reducible refine Below.step ?_ (by with_reducible assumption)))⟩
              | exact ⟨_, rfl, rfl, by omega, (((Bk.new _ 46 [.int .i64 0, .int .i64 0]).step hy6).set_ 0 _).set_ 1 _, by refine Below.setCell1 (Below.setCell1 ?_ (by dsimp only; omega) _) (by dsimp only; omega) _; (repeat (first | with_reducible exact Below.refl _ _ | with_reducible assumption | with_reducible refine Below.drew ?_ | with_reducible refine Below.drewN ?_ _ | with_reducible refine Below.alloc1 ?_ _ | with_reducible refine Below.setCell1 ?_ (by first | omega | (simp; done) | (simp; omega)) _ | with_reducible refine Below.step ?_ (by with_reducible assumption)))⟩
              | exact ⟨_, rfl, rfl, by omega, (((Bk.drew (Bk.new _ 46 [.int .i64 0, .int .i64 0])).step hy5).step hy6 |>.set_ 0 _).set_ 1 _, by refine Below.setCell1 (Below.setCell1 ?_ (by dsimp only; omega) _) (by dsimp only; omega) _; (repeat (first | with_reducible exact Below.refl _ _ | with_reducible assumption | with_reducible refine Below.drew ?_ | with_reducible refine Below.drewN ?_ _ | with_reducible refine Below.alloc1 ?_ _ | with_reducible refine Below.setCell1 ?_ (by first | omega | (simp; done) | (simp; omega)) _ | with_reducible refine Below.step ?_ (by with_reducible assumption)))⟩
        case rest =>
          obtain ⟨gx, rfl, rfl, hgx, kx, hyc⟩ := hcut
          replace hb1 : Below w.heap.size w wc := hb1.step hyc
          replace own := own_below own hyc (Nat.le_refl _)
          have hzc := hyc.size
          replace rB := rB.step hyc
          (try clear k0_0 k0_f0 k0_1 k0_f1 lt_k0)
          clear k0 hyc hOf hT
          have kx_0 := kx.cell 0; have kx_f0 := kx.frozen 0; have kx_1 := kx.cell 1; have kx_f1 := kx.frozen 1; simp only [List.set_cons_zero, List.set_cons_succ, List.getElem?_cons_zero, List.getElem?_cons_succ] at kx_0 kx_1; have lt_kx := kx.lt
          cases f with
          | false =>
            have hR := hide (HR1.out rfl)
            clear HR1 HR2 HP
            go_wp2
            refine bodyPost_ret (v := STk m.length 14 d B) (by simp only [results, Try.results32]; go_simp) rfl ?_
            rw [hR.out]
            exact ⟨B, d, rfl, own, hb1⟩
          | true =>
            have hR := hide (HR2.out rfl)
            have hin := fun (vb : Nat) (W : World) (h : Below wc.heap.size wc W) (kv : Bk W vb 146 (enC ⟨s, t', a'⟩)) (hv : wc.heap.size ≤ vb) => en_Insert B d vb w.heap.size k m ⟨s, t', a'⟩ W hml hkl (Nat.le_trans hb1.size h.size) (own_below own h (Nat.le_refl _)) kv (fun g hg => by have := own.lt g hg; omega)
            have HPL := hide (show (m.take k ++ (⟨s, t', a'⟩ : En) :: m.drop k).length = m.length + 1 from by simp only [List.length_append, List.length_cons, List.length_take, List.length_drop]; omega)
            clear HR1 HR2
            go_wp2_with fail
            generalize hV : World.alloc wc _ = w8
            have hy8 : Below wc.heap.size wc w8 := by subst hV; (repeat (first | with_reducible exact Below.refl _ _ | with_reducible assumption | with_reducible refine Below.drew ?_ | with_reducible refine Below.drewN ?_ _ | with_reducible refine Below.alloc1 ?_ _ | with_reducible refine Below.setCell1 ?_ (by first | omega | (simp; done) | (simp; omega)) _ | with_reducible refine Below.step ?_ (by with_reducible assumption)))
            have k8 : Bk w8 wc.heap.size 146 (enC ⟨s, t', a'⟩) := by subst hV; (repeat (first | with_reducible exact Bk.new' _ _ _ _ (by simp; done) | with_reducible assumption | with_reducible refine Bk.alloc ?_ _ | with_reducible refine Bk.drew ?_ | with_reducible refine Bk.drewN ?_ _ | with_reducible refine Bk.step ?_ (by with_reducible assumption) | with_reducible refine Bk.far ?_ (by first | omega | (simp; done) | (simp; omega)) _))
            clear hV
            refine (hin _ _ hy8 k8 (Nat.le_refl _)).mono ?_; rintro e w9 ⟨B9, d9, rfl, own9, hy9⟩
            have hb9 := (hb1.step hy8).trans hy9
            clear hin
            go_wp2
            refine bodyPost_ret (v := STk (m.length + 1) 0 d9 B9) (by simp only [results, Try.results32]; go_simp) rfl ?_
            rw [hR.out, HP.out, HPL.out]
            exact ⟨_, d9, rfl, own9, hb9⟩
  · have hr : eTake b r l s now = (l, eCheck b r l) := by unfold eTake; rw [if_pos he]
    have hne : (eCheck b r l != 0) = true := by simpa using he
    rw [hr]
    generalize eCheck b r l = q at *
    clear he hr
    dsimp only
    go_enter Try.func32, Try.ntmps32
    go_wp2_with fail
    generalize hV : World.alloc w _ = w1
    have hb1 : Below w.heap.size w w1 := by subst hV; (repeat (first | with_reducible exact Below.refl _ _ | with_reducible assumption | with_reducible refine Below.drew ?_ | with_reducible refine Below.drewN ?_ _ | with_reducible refine Below.alloc1 ?_ _ | with_reducible refine Below.setCell1 ?_ (by first | omega | (simp; done) | (simp; omega)) _ | with_reducible refine Below.step ?_ (by with_reducible assumption)))
    clear hV
    refine (hC _ hb1).mono ?_; rintro e x0 ⟨rfl, hx0⟩
    replace hb1 : Below w.heap.size w x0 := hb1.step hx0
    clear hx0
    go_wp2_with fail
    refine (hK _ hb1).mono ?_; rintro e x2 ⟨B, d, rfl, own, hx2⟩
    replace own := own_base14 own hb1.size
    replace hb1 : Below w.heap.size w x2 := hb1.step hx2
    go_wp2
    exact bodyPost_ret (v := STk l.length q d B) (by simp only [results, Try.results32]; go_simp) rfl ⟨B, d, rfl, own, hb1⟩
theorem source_Take_any (A : Option Addr) (c : Nat) (b r : Int) (l : List En) (s now : Int) (w : World) (hl : l.length ≤ 1000) (ha : Rd w w.heap.size A (enR l)) :
    Calls Try.prog 32 #[.agg #[.int .i64 b, .int .i64 r], .slice A l.length c, .int .i64 s, .int .i64 now] w fun e w' => ∃ B d, e = .returned (STk (eTake b r l s now).1.length (eTake b r l s now).2 d B) ∧ Rd w' w'.heap.size B (enR (eTake b r l s now).1) ∧ Below w.heap.size w w' :=
  (source_Take_own A c b r l s now w hl ha).mono fun _ _ ⟨B, d, e, o, h⟩ => ⟨B, d, e, own_rd o, h⟩
end Go.Proofs.Ytolpiaehleefbaa
