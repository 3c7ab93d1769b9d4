/- callboyref14: Take. -/
import Derived.Test.YtolpiaehleefbaaRef14b
namespace Go.Proofs.Ytolpiaehleefbaa
open Go.RowKit Go.Sort
set_option linter.unusedSimpArgs false
set_option linter.unusedVariables false

set_option maxRecDepth 100000 in
set_option maxHeartbeats 16000000 in
theorem r14_Take_fr (A : Option Addr) (c : Nat) (b r : Int) (l : List En) (s now : Int) (w : World) (hl : l.length ≤ 1000) (hlc : l.length ≤ c) (ha : Rd w w.heap.size A (enR l)) :
    Calls Try.prog 38 #[.agg #[.int .i64 b, .int .i64 r], .slice A l.length c, .int .i64 s, .int .i64 now] w fun e w' => ∃ B d, e = .returned (STk (eTake b r l s now).1.length (eTake b r l s now).2 d B) ∧ Rd w' w'.heap.size B (enR (eTake b r l s now).1) ∧ Fr1 w A B l (eTake b r l s now).1 ∧ Below w.heap.size w w' := by
  obtain ⟨iT, hi, hz0, hz1, hz2⟩ := info_parts ren_info
  have hC := fun (W : World) (h : Below w.heap.size w W) => r14_Check_any A c b r l W hl ((ha.below h).more h.size)
  have hM := fun w => r14_may_any s w
  by_cases he : eCheck b r l = 0
  · cases hm : sMay s with
    | false =>
      have hr : eTake b r l s now = (l, 2) := by unfold eTake; rw [if_neg (by simp [he]), if_pos hm]
      rw [hr]
      rw [hm] at hM
      rw [he] at hC
      clear he hm hr
      dsimp only
      go_enter Try.func38, Try.ntmps38
      go_wp2_with fail
      generalize hV : World.alloc w _ = w1
      have hb1 : Below w.heap.size w w1 := by subst hV; (repeat (first | with_reducible exact Below.refl _ _ | with_reducible assumption | with_reducible refine Below.drew ?_ | with_reducible refine Below.drewN ?_ _ | with_reducible refine Below.alloc1 ?_ _ | with_reducible refine Below.setCell1 ?_ (by first | omega | (simp; done) | (simp; omega)) _ | with_reducible refine Below.step ?_ (by with_reducible assumption)))
      clear hV
      refine (hC _ hb1).mono ?_; rintro e x0 ⟨rfl, hx0⟩
      replace hb1 : Below w.heap.size w x0 := hb1.step hx0
      clear hx0
      go_wp2_with fail
      refine (hM _).mono ?_; rintro e x1 ⟨rfl, rfl⟩
      go_wp2
      exact bodyPost_ret (v := STk l.length 2 c A) (by simp only [results, Try.results38]; go_simp) rfl ⟨A, c, rfl, (ha.below hb1).more hb1.size, .inl ⟨rfl, rfl⟩, hb1⟩
    | true =>
      have hr : eTake b r l s now = eTake2 b r (eClean b r l now) s now := by unfold eTake; rw [if_neg (by simp [he]), if_neg (by rw [hm]; simp)]
      have hL := fun (W : World) (h : Below w.heap.size w W) => r14_Clean_fr A c b r l now W hl hlc ((ha.below h).more h.size)
      have hml : (eClean b r l now).length ≤ l.length := by unfold eClean; split; exact Nat.le_refl _; exact List.length_filter_le _ _
      have hm8 : (eClean b r l now).length ≤ 8 := Nat.le_trans hml (eCheck_ok he).2.1
      rw [hr]
      rw [hm] at hM
      rw [he] at hC
      clear he hm hr hml
      generalize eClean b r l now = m at *
      have hml : m.length ≤ 1000 := by omega
      have HE := hide (show eTake2 b r m s now = if hasB m s = false ∧ m.length = 8 then (m, 7) else if (bTake b r (eOf b m s now).1 (eOf b m s now).2 now 1).2 = false then (m, 14) else (ePut m s (bTake b r (eOf b m s now).1 (eOf b m s now).2 now 1).1, 0) from rfl)
      have hOf := fun (B : Option Addr) (d : Nat) (W : World) (h : Rd W W.heap.size B (enR m)) => r14_of_any B d b r m s now W hml h
      unfold ofV at hOf
      have hT := fun t a W => r13_Take_tup b r t a now 1 (by omega) W
      generalize eOf b m s now = E at *
      obtain ⟨t, a⟩ := E
      unfold stV at hOf
      dsimp only at hOf HE
      replace hT := hT t a
      generalize bTake b r t a now 1 = P at *
      obtain ⟨⟨t', a'⟩, f⟩ := P
      dsimp only at hT HE
      have hkl := lowB_le m s
      have HP := hide (show ePut m s (t', a') = if hasB m s = true then m.set (lowB m s) ⟨s, t', a'⟩ else m.take (lowB m s) ++ ⟨s, t', a'⟩ :: m.drop (lowB m s) from rfl)
      have HLt := hide (fun (h : hasB m s = true) => hasB_lt h)
      generalize hasB m s = q at *
      generalize lowB m s = k at *
      have hsz : ∀ W, (sizeOf 144).run Try.prog W = .ok 3 W := fun W => by kernel_rfl
      have hel : Try.prog.elem 34 = 144 := by kernel_rfl
      go_enter Try.func38, Try.ntmps38
      go_wp2_with fail
      generalize hV : World.alloc w _ = w1
      have hb1 : Below w.heap.size w w1 := by subst hV; (repeat (first | with_reducible exact Below.refl _ _ | with_reducible assumption | with_reducible refine Below.drew ?_ | with_reducible refine Below.drewN ?_ _ | with_reducible refine Below.alloc1 ?_ _ | with_reducible refine Below.setCell1 ?_ (by first | omega | (simp; done) | (simp; omega)) _ | with_reducible refine Below.step ?_ (by with_reducible assumption)))
      have k0 : Bk w1 w.heap.size 23 [.int .i64 b, .int .i64 r] := by subst hV; (repeat (first | with_reducible exact Bk.new' _ _ _ _ (by simp; done) | with_reducible assumption | with_reducible refine Bk.alloc ?_ _ | with_reducible refine Bk.drew ?_ | with_reducible refine Bk.drewN ?_ _ | with_reducible refine Bk.step ?_ (by with_reducible assumption) | with_reducible refine Bk.far ?_ (by first | omega | (simp; done) | (simp; omega)) _))
      clear hV
      refine (hC _ hb1).mono ?_; rintro e x0 ⟨rfl, hx0⟩
      replace k0 := k0.step hx0; (try clear k0_0 k0_f0 k0_1 k0_f1); have k0_0 := k0.cell 0; have k0_f0 := k0.frozen 0; have k0_1 := k0.cell 1; have k0_f1 := k0.frozen 1; simp only [List.set_cons_zero, List.set_cons_succ, List.getElem?_cons_zero, List.getElem?_cons_succ] at k0_0 k0_1; (try clear lt_k0); have lt_k0 := k0.lt
      replace hb1 : Below w.heap.size w x0 := hb1.step hx0
      clear hx0 hC
      go_wp2_with fail
      refine (hM _).mono ?_; rintro e x1 ⟨rfl, rfl⟩
      go_wp2_with fail
      refine (hL _ hb1).mono ?_; rintro e x2 ⟨B, d, rfl, hmd, rB, hfr, hx2⟩
      replace hfr := hfr.up hb1.size
      have HFr := hide hfr
      clear hfr
      replace k0 := k0.step hx2; (try clear k0_0 k0_f0 k0_1 k0_f1); have k0_0 := k0.cell 0; have k0_f0 := k0.frozen 0; have k0_1 := k0.cell 1; have k0_f1 := k0.frozen 1; simp only [List.set_cons_zero, List.set_cons_succ, List.getElem?_cons_zero, List.getElem?_cons_succ] at k0_0 k0_1; (try clear lt_k0); have lt_k0 := k0.lt
      replace hb1 : Below w.heap.size w x2 := hb1.step hx2
      clear hx2 hM hL
      go_wp2_with fail
      refine (hOf _ _ _ rB).mono ?_; rintro e x3 ⟨rfl, hx3⟩
      replace k0 := k0.step hx3; (try clear k0_0 k0_f0 k0_1 k0_f1); have k0_0 := k0.cell 0; have k0_f0 := k0.frozen 0; have k0_1 := k0.cell 1; have k0_f1 := k0.frozen 1; simp only [List.set_cons_zero, List.set_cons_succ, List.getElem?_cons_zero, List.getElem?_cons_succ] at k0_0 k0_1; (try clear lt_k0); have lt_k0 := k0.lt
      replace hb1 : Below w.heap.size w x3 := hb1.step hx3
      replace rB := rB.step hx3
      clear hx3 hOf
      have K8 : (q = false ∧ m.length = 8) ∨ ¬ (q = false ∧ m.length = 8) := Classical.em _
      have hg : ∀ W, Below x3.heap.size x3 W → True := fun _ _ => trivial
      clear hg
      obtain ⟨st1, st2⟩ := to_runA Try.underlying34 hel hsz B k m.length d (k : Int) rfl (by omega)
      by_cases h78 : q = false ∧ m.length = 8
      · have hR := hide (show eTake2 b r m s now = (m, 7) from by rw [HE.out, if_pos h78])
        obtain ⟨rfl, h8⟩ := h78
        have h8b : (8 : Int) ≤ (m.length : Int) := by omega
        clear h8 HE K8
        go_wp2
        refine bodyPost_ret (v := STk m.length 7 d B) (by simp only [results, Try.results38]; go_simp) rfl ?_
        rw [hR.out]
        have hb2 : Below x3.heap.size x3 (x3.alloc (.cells #[.int .i64 t, .int .i64 a] 33)) := by (repeat (first | with_reducible exact Below.refl _ _ | with_reducible assumption | with_reducible refine Below.drew ?_ | with_reducible refine Below.drewN ?_ _ | with_reducible refine Below.alloc1 ?_ _ | with_reducible refine Below.setCell1 ?_ (by first | omega | (simp; done) | (simp; omega)) _ | with_reducible refine Below.step ?_ (by with_reducible assumption)))
        exact ⟨B, d, rfl, rB.step hb2, HFr.out, hb1.step hb2⟩
      · clear K8
        cases q with
        | true =>
          have hlt := HLt.out rfl
          go_wp2_with fail
          generalize hV : World.alloc x3 _ = w4
          have hy : Below x3.heap.size x3 w4 := by subst hV; (repeat (first | with_reducible exact Below.refl _ _ | with_reducible assumption | with_reducible refine Below.drew ?_ | with_reducible refine Below.drewN ?_ _ | with_reducible refine Below.alloc1 ?_ _ | with_reducible refine Below.setCell1 ?_ (by first | omega | (simp; done) | (simp; omega)) _ | with_reducible refine Below.step ?_ (by with_reducible assumption)))
          have kE : Bk w4 x3.heap.size 33 [.int .i64 t, .int .i64 a] := by subst hV; (repeat (first | with_reducible exact Bk.new' _ _ _ _ (by simp; done) | with_reducible assumption | with_reducible refine Bk.alloc ?_ _ | with_reducible refine Bk.drew ?_ | with_reducible refine Bk.drewN ?_ _ | with_reducible refine Bk.step ?_ (by with_reducible assumption) | with_reducible refine Bk.far ?_ (by first | omega | (simp; done) | (simp; omega)) _))
          clear hV
          replace k0 := k0.step hy; (try clear k0_0 k0_f0 k0_1 k0_f1); have k0_0 := k0.cell 0; have k0_f0 := k0.frozen 0; have k0_1 := k0.cell 1; have k0_f1 := k0.frozen 1; simp only [List.set_cons_zero, List.set_cons_succ, List.getElem?_cons_zero, List.getElem?_cons_succ] at k0_0 k0_1; (try clear lt_k0); have lt_k0 := k0.lt
          replace hb1 : Below w.heap.size w w4 := hb1.step hy
          replace rB := rB.step hy
          have kE_0 := kE.cell 0; have kE_f0 := kE.frozen 0; have kE_1 := kE.cell 1; have kE_f1 := kE.frozen 1; simp only [List.set_cons_zero, List.set_cons_succ, List.getElem?_cons_zero, List.getElem?_cons_succ] at kE_0 kE_1; have lt_kE := kE.lt
          clear hy
          refine (hT _).mono ?_; rintro e x5 ⟨rfl, hx5⟩
          (try clear k0_0 k0_f0 k0_1 k0_f1 lt_k0) ; (try clear kE_0 kE_f0 kE_1 kE_f1 lt_kE)
          replace hb1 : Below w.heap.size w x5 := hb1.step hx5
          replace rB := rB.step hx5
          clear k0 kE hx5 hT
          cases f with
          | false =>
            have hR := hide (show eTake2 b r m s now = (m, 14) from by rw [HE.out, if_neg h78, if_pos rfl])
            clear HE HP
            go_wp2
            refine bodyPost_ret (v := STk m.length 14 d B) (by simp only [results, Try.results38]; go_simp) rfl ?_
            rw [hR.out]
            have hb2 : Below x5.heap.size x5 (x5.alloc (.cells #[.int .i64 t', .int .i64 a'] 33)) := by (repeat (first | with_reducible exact Below.refl _ _ | with_reducible assumption | with_reducible refine Below.drew ?_ | with_reducible refine Below.drewN ?_ _ | with_reducible refine Below.alloc1 ?_ _ | with_reducible refine Below.setCell1 ?_ (by first | omega | (simp; done) | (simp; omega)) _ | with_reducible refine Below.step ?_ (by with_reducible assumption)))
            exact ⟨B, d, rfl, rB.step hb2, HFr.out, hb1.step hb2⟩
          | true =>
            have hR := hide (show eTake2 b r m s now = (ePut m s (t', a'), 0) from by rw [HE.out, if_neg h78, if_neg (by simp)])
            have HF : Hid (ePut m s (t', a') = m.take k ++ [⟨s, t', a'⟩] ++ m.drop (k + 1)) := by unfold Hid; rw [HP.out]; simp only [if_true, if_pos]; rw [List.set_eq_take_append_cons_drop, if_pos hlt]; simp
            obtain ⟨A2, hA2, sf1, sf2⟩ := from_runA Try.underlying34 hel hsz B (k + 1) m.length d ((k : Int) + 1) (by omega) (by omega) (by omega)
            clear HE HP h78 hel hsz
            go_wp2_with fail
            generalize hV : World.alloc x5 _ = w6
            have hy : Below x5.heap.size x5 w6 := by subst hV; (repeat (first | with_reducible exact Below.refl _ _ | with_reducible assumption | with_reducible refine Below.drew ?_ | with_reducible refine Below.drewN ?_ _ | with_reducible refine Below.alloc1 ?_ _ | with_reducible refine Below.setCell1 ?_ (by first | omega | (simp; done) | (simp; omega)) _ | with_reducible refine Below.step ?_ (by with_reducible assumption)))
            have kX : Bk w6 x5.heap.size 33 [.int .i64 t', .int .i64 a'] := by subst hV; (repeat (first | with_reducible exact Bk.new' _ _ _ _ (by simp; done) | with_reducible assumption | with_reducible refine Bk.alloc ?_ _ | with_reducible refine Bk.drew ?_ | with_reducible refine Bk.drewN ?_ _ | with_reducible refine Bk.step ?_ (by with_reducible assumption) | with_reducible refine Bk.far ?_ (by first | omega | (simp; done) | (simp; omega)) _))
            clear hV
            replace hb1 : Below w.heap.size w w6 := hb1.step hy
            replace rB := rB.step hy
            clear hy
            have kX_0 := kX.cell 0; have kX_f0 := kX.frozen 0; have kX_1 := kX.cell 1; have kX_f1 := kX.frozen 1; simp only [List.set_cons_zero, List.set_cons_succ, List.getElem?_cons_zero, List.getElem?_cons_succ] at kX_0 kX_1; have lt_kX := kX.lt
            refine wp_region_mt 9 [(4, OwnAtR w6.heap.size 144 3 k (enR (m.take k))), (8, RowAt 1 (enC ⟨s, t', a'⟩))] (by kernel_rfl) (by kernel_rfl) (by kernel_rfl) (by kernel_rfl) (sts_cons (sts_ownR _ _ _ _ _) (sts_cons (sts_row _ _) sts_nil)) (fun kq => ?_); (try dsimp only [List.append, List.take])
            (repeat (refine wpM_via (by kernel_rfl) ?_; go_big_quiet_step (fail); refine wpQuiet_nil ?_))
            (refine wpM_spec _ (OwnAtR w6.heap.size 144 3 k (enR (m.take k))) (by kernel_rfl) (by kernel_rfl) rfl (later_some _) ?_ ?_; (focus (intro x hx hk; obtain ⟨px, rfl⟩ := hx; exact mUpon_appnil (.tmp 61) (.tmp 64) 34 rfl 144 iT _ 3 24 Try.underlying34 hi hz0 hz1 hz2 rfl (by omega) w6.heap.size (below_regrown w6 _ _).size rfl B k d (enR (m.take k)) w6.heap.size rfl (by rw [enR_length, List.length_take]; omega) (by rw [← enR_take]; exact (rB.below (below_regrown w6 _ _)).take _) (enR_one _) (by unfold maxLen; omega) (by omega))); intro v hv K hK; obtain ⟨A7, cap7, rfl⟩ := hv; go_big_quiet_op; refine hK _ ?_; clear hK K)
            (repeat (refine wpM_via (by kernel_rfl) ?_; go_big_quiet_step (fail); refine wpQuiet_nil ?_))
            (refine wpM_spec _ (RowAt 1 (enC ⟨s, t', a'⟩)) (by kernel_rfl) (by kernel_rfl) rfl (later_some _) ?_ ?_; (focus (intro x hx hk; obtain ⟨px, rfl⟩ := hx; go_simp; (first | with_reducible refine mUpon_enter ?_ | with_reducible refine mUpon_value ?_); exact row_new (by simp [Go.Sort.grow]) rfl)); intro v hv K hK; obtain ⟨A8, c8, rfl⟩ := hv; go_big_quiet_op; refine hK _ ?_; clear hK K)
            refine wpM_nil ?_; intro wq hwq hfq; have hbq := below_of_class hwq; clear hwq kq; (try dsimp only [List.drop])
            have hrow := row_of hfq.1
            have own7 := own_ofR (base := w6.heap.size) hfq.2.1
            obtain ⟨ad2, rfl, hab, _⟩ := hrow (by simp)
            have hsq := hbq.size
            (try clear kX_0 kX_f0 kX_1 kX_f1 lt_kX)
            have hw6 := hb1.size
            replace rB := rB.below hbq
            replace hb1 : Below w.heap.size w wq := hb1.step hbq
            have rD := hA2 _ _ _ rB (by rw [enR_length]; omega)
            rw [enR_drop] at rD
            clear hfq hbq st1 st2 kX hA2 rB
            refine wpList_app2 rfl (.tmp 65) (.tmp 69) 34 rfl w6.heap.size 144 iT _ 3 24 Try.underlying34 hi hz0 hz1 hz2 rfl (by omega) A7 k cap7 (enR (m.take k)) rfl own7 ad2 1 c8 (enC ⟨s, t', a'⟩) rfl rfl (rd_hnews hrow) (by simp [Value.oneCell']) (by unfold maxLen; omega) (by omega) hsq (by omega) ?_
            intro g8 cap8 w8 own8 hb8 hgr8
            replace rD := rD.below hb8
            replace hb1 : Below w.heap.size w w8 := hb1.trans (hb8.mono hw6)
            have hs8 := hb8.size
            clear hrow hab hb8 hgr8 own7
            go_wp2_with (at_builtin; refine wpList_app3 rfl (.tmp 74) (.tmp 77) 34 rfl w6.heap.size 144 iT _ 3 24 Try.underlying34 hi hz0 hz1 hz2 rfl (by omega) (some ⟨g8, 0, none⟩) (k + 1) cap8 (enR (m.take k) ++ enC ⟨s, t', a'⟩) rfl own8 A2 (m.length - (k + 1)) (d - (k + 1)) (enR (m.drop (k + 1))) w6.heap.size rfl (by rw [enR_length, List.length_drop]; omega) rD (enR_one _) (by unfold maxLen; omega) (by omega) (by omega) ?_; intro A9 cap9 w9 own9 hb9 hgr9)
            have hL9 : Hid ((m.take k ++ [(⟨s, t', a'⟩ : En)] ++ m.drop (k + 1)).length = k + 1 + (m.length - (k + 1))) := by unfold Hid; simp only [List.length_append, List.length_take, List.length_drop, List.length_cons, List.length_nil]; omega
            refine bodyPost_ret (v := STk (k + 1 + (m.length - (k + 1))) 0 cap9 A9) (by simp only [results, Try.results38]; go_simp) rfl ?_
            rw [hR.out, HF.out, hL9.out]
            refine ⟨A9, cap9, rfl, ?_, .inr (fun ad e => by have := (own_blk own9 ad e).1; omega), hb1.trans (hb9.mono hw6)⟩
            have := own_rd own9
            rwa [show enR (m.take k ++ [(⟨s, t', a'⟩ : En)] ++ m.drop (k + 1)) = enR (m.take k) ++ enC ⟨s, t', a'⟩ ++ enR (m.drop (k + 1)) from by rw [enR_append, enR_append]; simp [enR]]
        | false =>
          have h8 : ¬ (8 : Int) ≤ (m.length : Int) := fun h => h78 ⟨rfl, by omega⟩
          go_wp2_with fail
          generalize hV : World.alloc x3 _ = w4
          have hy : Below x3.heap.size x3 w4 := by subst hV; (repeat (first | with_reducible exact Below.refl _ _ | with_reducible assumption | with_reducible refine Below.drew ?_ | with_reducible refine Below.drewN ?_ _ | with_reducible refine Below.alloc1 ?_ _ | with_reducible refine Below.setCell1 ?_ (by first | omega | (simp; done) | (simp; omega)) _ | with_reducible refine Below.step ?_ (by with_reducible assumption)))
          have kE : Bk w4 x3.heap.size 33 [.int .i64 t, .int .i64 a] := by subst hV; (repeat (first | with_reducible exact Bk.new' _ _ _ _ (by simp; done) | with_reducible assumption | with_reducible refine Bk.alloc ?_ _ | with_reducible refine Bk.drew ?_ | with_reducible refine Bk.drewN ?_ _ | with_reducible refine Bk.step ?_ (by with_reducible assumption) | with_reducible refine Bk.far ?_ (by first | omega | (simp; done) | (simp; omega)) _))
          clear hV
          replace k0 := k0.step hy; (try clear k0_0 k0_f0 k0_1 k0_f1); have k0_0 := k0.cell 0; have k0_f0 := k0.frozen 0; have k0_1 := k0.cell 1; have k0_f1 := k0.frozen 1; simp only [List.set_cons_zero, List.set_cons_succ, List.getElem?_cons_zero, List.getElem?_cons_succ] at k0_0 k0_1; (try clear lt_k0); have lt_k0 := k0.lt
          replace hb1 : Below w.heap.size w w4 := hb1.step hy
          replace rB := rB.step hy
          have kE_0 := kE.cell 0; have kE_f0 := kE.frozen 0; have kE_1 := kE.cell 1; have kE_f1 := kE.frozen 1; simp only [List.set_cons_zero, List.set_cons_succ, List.getElem?_cons_zero, List.getElem?_cons_succ] at kE_0 kE_1; have lt_kE := kE.lt
          clear hy
          refine (hT _).mono ?_; rintro e x5 ⟨rfl, hx5⟩
          (try clear k0_0 k0_f0 k0_1 k0_f1 lt_k0) ; (try clear kE_0 kE_f0 kE_1 kE_f1 lt_kE)
          replace hb1 : Below w.heap.size w x5 := hb1.step hx5
          replace rB := rB.step hx5
          clear k0 kE hx5 hT
          cases f with
          | false =>
            have hR := hide (show eTake2 b r m s now = (m, 14) from by rw [HE.out, if_neg h78, if_pos rfl])
            clear HE HP
            go_wp2
            refine bodyPost_ret (v := STk m.length 14 d B) (by simp only [results, Try.results38]; go_simp) rfl ?_
            rw [hR.out]
            have hb2 : Below x5.heap.size x5 (x5.alloc (.cells #[.int .i64 t', .int .i64 a'] 33)) := by (repeat (first | with_reducible exact Below.refl _ _ | with_reducible assumption | with_reducible refine Below.drew ?_ | with_reducible refine Below.drewN ?_ _ | with_reducible refine Below.alloc1 ?_ _ | with_reducible refine Below.setCell1 ?_ (by first | omega | (simp; done) | (simp; omega)) _ | with_reducible refine Below.step ?_ (by with_reducible assumption)))
            exact ⟨B, d, rfl, rB.step hb2, HFr.out, hb1.step hb2⟩
          | true =>
            have hR := hide (show eTake2 b r m s now = (ePut m s (t', a'), 0) from by rw [HE.out, if_neg h78, if_neg (by simp)])
            have HF : Hid (ePut m s (t', a') = m.take k ++ [⟨s, t', a'⟩] ++ m.drop k) := by unfold Hid; rw [HP.out]; simp
            obtain ⟨A2, hA2, sf1, sf2⟩ := from_runA Try.underlying34 hel hsz B k m.length d (k : Int) (by omega) (by omega) (by omega)
            clear HE HP h78 hel hsz
            go_wp2_with fail
            generalize hV : World.alloc x5 _ = w6
            have hy : Below x5.heap.size x5 w6 := by subst hV; (repeat (first | with_reducible exact Below.refl _ _ | with_reducible assumption | with_reducible refine Below.drew ?_ | with_reducible refine Below.drewN ?_ _ | with_reducible refine Below.alloc1 ?_ _ | with_reducible refine Below.setCell1 ?_ (by first | omega | (simp; done) | (simp; omega)) _ | with_reducible refine Below.step ?_ (by with_reducible assumption)))
            have kX : Bk w6 x5.heap.size 33 [.int .i64 t', .int .i64 a'] := by subst hV; (repeat (first | with_reducible exact Bk.new' _ _ _ _ (by simp; done) | with_reducible assumption | with_reducible refine Bk.alloc ?_ _ | with_reducible refine Bk.drew ?_ | with_reducible refine Bk.drewN ?_ _ | with_reducible refine Bk.step ?_ (by with_reducible assumption) | with_reducible refine Bk.far ?_ (by first | omega | (simp; done) | (simp; omega)) _))
            clear hV
            replace hb1 : Below w.heap.size w w6 := hb1.step hy
            replace rB := rB.step hy
            clear hy
            have kX_0 := kX.cell 0; have kX_f0 := kX.frozen 0; have kX_1 := kX.cell 1; have kX_f1 := kX.frozen 1; simp only [List.set_cons_zero, List.set_cons_succ, List.getElem?_cons_zero, List.getElem?_cons_succ] at kX_0 kX_1; have lt_kX := kX.lt
            refine wp_region_mt 9 [(4, OwnAtR w6.heap.size 144 3 k (enR (m.take k))), (8, RowAt 1 (enC ⟨s, t', a'⟩))] (by kernel_rfl) (by kernel_rfl) (by kernel_rfl) (by kernel_rfl) (sts_cons (sts_ownR _ _ _ _ _) (sts_cons (sts_row _ _) sts_nil)) (fun kq => ?_); (try dsimp only [List.append, List.take])
            (repeat (refine wpM_via (by kernel_rfl) ?_; go_big_quiet_step (fail); refine wpQuiet_nil ?_))
            (refine wpM_spec _ (OwnAtR w6.heap.size 144 3 k (enR (m.take k))) (by kernel_rfl) (by kernel_rfl) rfl (later_some _) ?_ ?_; (focus (intro x hx hk; obtain ⟨px, rfl⟩ := hx; exact mUpon_appnil (.tmp 61) (.tmp 64) 34 rfl 144 iT _ 3 24 Try.underlying34 hi hz0 hz1 hz2 rfl (by omega) w6.heap.size (below_regrown w6 _ _).size rfl B k d (enR (m.take k)) w6.heap.size rfl (by rw [enR_length, List.length_take]; omega) (by rw [← enR_take]; exact (rB.below (below_regrown w6 _ _)).take _) (enR_one _) (by unfold maxLen; omega) (by omega))); intro v hv K hK; obtain ⟨A7, cap7, rfl⟩ := hv; go_big_quiet_op; refine hK _ ?_; clear hK K)
            (repeat (refine wpM_via (by kernel_rfl) ?_; go_big_quiet_step (fail); refine wpQuiet_nil ?_))
            (refine wpM_spec _ (RowAt 1 (enC ⟨s, t', a'⟩)) (by kernel_rfl) (by kernel_rfl) rfl (later_some _) ?_ ?_; (focus (intro x hx hk; obtain ⟨px, rfl⟩ := hx; go_simp; (first | with_reducible refine mUpon_enter ?_ | with_reducible refine mUpon_value ?_); exact row_new (by simp [Go.Sort.grow]) rfl)); intro v hv K hK; obtain ⟨A8, c8, rfl⟩ := hv; go_big_quiet_op; refine hK _ ?_; clear hK K)
            refine wpM_nil ?_; intro wq hwq hfq; have hbq := below_of_class hwq; clear hwq kq; (try dsimp only [List.drop])
            have hrow := row_of hfq.1
            have own7 := own_ofR (base := w6.heap.size) hfq.2.1
            obtain ⟨ad2, rfl, hab, _⟩ := hrow (by simp)
            have hsq := hbq.size
            (try clear kX_0 kX_f0 kX_1 kX_f1 lt_kX)
            have hw6 := hb1.size
            replace rB := rB.below hbq
            replace hb1 : Below w.heap.size w wq := hb1.step hbq
            have rD := hA2 _ _ _ rB (by rw [enR_length]; omega)
            rw [enR_drop] at rD
            clear hfq hbq st1 st2 kX hA2 rB
            refine wpList_app2 rfl (.tmp 65) (.tmp 69) 34 rfl w6.heap.size 144 iT _ 3 24 Try.underlying34 hi hz0 hz1 hz2 rfl (by omega) A7 k cap7 (enR (m.take k)) rfl own7 ad2 1 c8 (enC ⟨s, t', a'⟩) rfl rfl (rd_hnews hrow) (by simp [Value.oneCell']) (by unfold maxLen; omega) (by omega) hsq (by omega) ?_
            intro g8 cap8 w8 own8 hb8 hgr8
            replace rD := rD.below hb8
            replace hb1 : Below w.heap.size w w8 := hb1.trans (hb8.mono hw6)
            have hs8 := hb8.size
            clear hrow hab hb8 hgr8 own7
            go_wp2_with (at_builtin; refine wpList_app3 rfl (.tmp 74) (.tmp 77) 34 rfl w6.heap.size 144 iT _ 3 24 Try.underlying34 hi hz0 hz1 hz2 rfl (by omega) (some ⟨g8, 0, none⟩) (k + 1) cap8 (enR (m.take k) ++ enC ⟨s, t', a'⟩) rfl own8 A2 (m.length - k) (d - k) (enR (m.drop k)) w6.heap.size rfl (by rw [enR_length, List.length_drop]; omega) rD (enR_one _) (by unfold maxLen; omega) (by omega) (by omega) ?_; intro A9 cap9 w9 own9 hb9 hgr9)
            have hL9 : Hid ((m.take k ++ [(⟨s, t', a'⟩ : En)] ++ m.drop k).length = k + 1 + (m.length - k)) := by unfold Hid; simp only [List.length_append, List.length_take, List.length_drop, List.length_cons, List.length_nil]; omega
            refine bodyPost_ret (v := STk (k + 1 + (m.length - k)) 0 cap9 A9) (by simp only [results, Try.results38]; go_simp) rfl ?_
            rw [hR.out, HF.out, hL9.out]
            refine ⟨A9, cap9, rfl, ?_, .inr (fun ad e => by have := (own_blk own9 ad e).1; omega), hb1.trans (hb9.mono hw6)⟩
            have := own_rd own9
            rwa [show enR (m.take k ++ [(⟨s, t', a'⟩ : En)] ++ m.drop k) = enR (m.take k) ++ enC ⟨s, t', a'⟩ ++ enR (m.drop k) from by rw [enR_append, enR_append]; simp [enR]]
  · have hr : eTake b r l s now = (l, eCheck b r l) := by unfold eTake; rw [if_pos he]
    have hne : (eCheck b r l != 0) = true := by simpa using he
    rw [hr]
    generalize eCheck b r l = q at *
    clear he hr
    dsimp only
    go_enter Try.func38, Try.ntmps38
    go_wp2_with fail
    generalize hV : World.alloc w _ = w1
    have hb1 : Below w.heap.size w w1 := by subst hV; (repeat (first | with_reducible exact Below.refl _ _ | with_reducible assumption | with_reducible refine Below.drew ?_ | with_reducible refine Below.drewN ?_ _ | with_reducible refine Below.alloc1 ?_ _ | with_reducible refine Below.setCell1 ?_ (by first | omega | (simp; done) | (simp; omega)) _ | with_reducible refine Below.step ?_ (by with_reducible assumption)))
    have k0 : Bk w1 w.heap.size 23 [.int .i64 b, .int .i64 r] := by subst hV; (repeat (first | with_reducible exact Bk.new' _ _ _ _ (by simp; done) | with_reducible assumption | with_reducible refine Bk.alloc ?_ _ | with_reducible refine Bk.drew ?_ | with_reducible refine Bk.drewN ?_ _ | with_reducible refine Bk.step ?_ (by with_reducible assumption) | with_reducible refine Bk.far ?_ (by first | omega | (simp; done) | (simp; omega)) _))
    clear hV
    refine (hC _ hb1).mono ?_; rintro e x0 ⟨rfl, hx0⟩
    replace k0 := k0.step hx0; (try clear k0_0 k0_f0 k0_1 k0_f1); have k0_0 := k0.cell 0; have k0_f0 := k0.frozen 0; have k0_1 := k0.cell 1; have k0_f1 := k0.frozen 1; simp only [List.set_cons_zero, List.set_cons_succ, List.getElem?_cons_zero, List.getElem?_cons_succ] at k0_0 k0_1; (try clear lt_k0); have lt_k0 := k0.lt
    replace hb1 : Below w.heap.size w x0 := hb1.step hx0
    clear hx0
    go_wp2_with fail
    refine (hC _ hb1).mono ?_; rintro e x2 ⟨rfl, hx2⟩
    replace hb1 : Below w.heap.size w x2 := hb1.step hx2
    go_wp2
    exact bodyPost_ret (v := STk l.length q c A) (by simp only [results, Try.results38]; go_simp) rfl ⟨A, c, rfl, (ha.below hb1).more hb1.size, .inl ⟨rfl, rfl⟩, hb1⟩
theorem r14_Take_any (A : Option Addr) (c : Nat) (b r : Int) (l : List En) (s now : Int) (w : World) (hl : l.length ≤ 1000) (hlc : l.length ≤ c) (ha : Rd w w.heap.size A (enR l)) :
    Calls Try.prog 38 #[.agg #[.int .i64 b, .int .i64 r], .slice A l.length c, .int .i64 s, .int .i64 now] w fun e w' => ∃ B d, e = .returned (STk (eTake b r l s now).1.length (eTake b r l s now).2 d B) ∧ Rd w' w'.heap.size B (enR (eTake b r l s now).1) ∧ Below w.heap.size w w' :=
  (r14_Take_fr A c b r l s now w hl hlc ha).mono fun _ _ ⟨B, d, e, h1, _, h2⟩ => ⟨B, d, e, h1, h2⟩
end Go.Proofs.Ytolpiaehleefbaa
