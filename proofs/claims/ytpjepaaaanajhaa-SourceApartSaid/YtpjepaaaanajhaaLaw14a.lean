/- The walk of SourceTakes. -/
import Derived.Test.YtpjepaaaanajhaaAwake14
import Derived.Test.YtpjepaaaanajhaaRel5
import Derived.Test.YtpjepaaaanajhaaRef14c
import Derived.Test.YtpjepaaaanajhaaRef14d
import Derived.Test.YtpjepaaaanajhaaRef14e
namespace Go.Proofs.Ytpjepaaaanajhaa
open Go.RowKit Go.Sort
set_option linter.unusedSimpArgs false
set_option linter.unusedVariables false

theorem eClean_len (b r : Int) (l : List En) (now : Int) : (eClean b r l now).length ≤ l.length := by unfold eClean; split; exact Nat.le_refl _; exact List.length_filter_le _ _
theorem ePut_len (m : List En) (s : Int) (x : Int × Int) : (ePut m s x).length ≤ m.length + 1 := by
  unfold ePut; split
  · simp
  · simp only [List.length_append, List.length_cons, List.length_take, List.length_drop]; omega
theorem eTake_len (b r : Int) (l : List En) (s now : Int) : (eTake b r l s now).1.length ≤ l.length + 1 := by
  have h1 := eClean_len b r l now
  have h2 := ePut_len (eClean b r l now) s
  unfold eTake eTake2
  repeat' split
  all_goals first | (dsimp only; omega) | exact Nat.le_trans (h2 _) (by omega)
theorem r14_Same_b (A B : Option Addr) (c d : Nat) (l m : List En) (w : World) (hl : l.length ≤ 1000) (ha : Rd w w.heap.size A (enR l)) (hb : Rd w w.heap.size B (enR m)) :
    Calls Try.prog 10 #[.slice A l.length c, .slice B m.length d] w fun e w' => e = .returned (.bool (decide (l = m))) ∧ Below w.heap.size w w' :=
  (r14_Same_any A B c d l m w hl ha hb).mono fun _ _ h => ⟨h.1, qt_below h.2⟩
theorem r14_Same_self (A B : Option Addr) (c d : Nat) (l : List En) (w : World) (hl : l.length ≤ 1000) (ha : Rd w w.heap.size A (enR l)) (hb : Rd w w.heap.size B (enR l)) :
    Calls Try.prog 10 #[.slice A l.length c, .slice B l.length d] w fun e w' => e = .returned (.bool true) ∧ Below w.heap.size w w' :=
  (r14_Same_b A B c d l l w hl ha hb).lit (by simp)
theorem SameInts_len (A B : Option Addr) (c d n : Nat) (l : List Int) (w : World) (hn : l.length = n) (hl : n ≤ maxLen) (ha : Rd w w.heap.size A (ints l)) (hb : Rd w w.heap.size B (ints l)) :
    Calls Try.prog 20 #[.slice A n c, .slice B n d] w fun e w' => e = .returned (.bool true) ∧ Below w.heap.size w w' := by
  subst hn
  exact ((SameInts_any A B c d l l w hl ha hb).lit (by simp)).mono fun _ _ h => ⟨h.1, qt_below h.2⟩
theorem source_Clean_rd (A : Option Addr) (c : Nat) (b r : Int) (l : List En) (now : Int) (w : World) (hl : l.length ≤ 1000) (ha : Rd w w.heap.size A (enR l)) :
    Calls Try.prog 16 #[.agg #[.int .i64 b, .int .i64 r], .slice A l.length c, .int .i64 now] w fun e w' => ∃ B d, e = .returned (.slice B (eClean b r l now).length d) ∧ Rd w' w'.heap.size B (enR (eClean b r l now)) ∧ Below w.heap.size w w' :=
  (source_Clean_any A c b r l now w hl ha).mono fun _ _ ⟨B, d, e, o, h⟩ => ⟨B, d, e, own_rd o, h⟩
theorem r14_Clean_rd (A : Option Addr) (c : Nat) (b r : Int) (l : List En) (now : Int) (w : World) (hl : l.length ≤ 1000) (hlc : l.length ≤ c) (ha : Rd w w.heap.size A (enR l)) :
    Calls Try.prog 17 #[.agg #[.int .i64 b, .int .i64 r], .slice A l.length c, .int .i64 now] w fun e w' => ∃ B d, e = .returned (.slice B (eClean b r l now).length d) ∧ Rd w' w'.heap.size B (enR (eClean b r l now)) ∧ Below w.heap.size w w' :=
  (r14_Clean_any A c b r l now w hl hlc ha).mono fun _ _ ⟨B, d, e, _, o, h⟩ => ⟨B, d, e, o, h⟩
set_option maxRecDepth 100000 in
set_option maxHeartbeats 16000000 in
theorem SourceTakes_walk (A : Option Addr) (c : Nat) (b r : Int) (l : List En) (n0 n1 : Int) (w : World) (hl : l.length ≤ maxLen) (hlc : l.length ≤ c) (ha : Rd w w.heap.size A (enR l)) :
    Calls Try.prog 3 #[.agg #[.int .i64 b, .int .i64 r], .slice A l.length c, .agg #[.int .i64 n0, .int .i64 n1]] w fun e w' => e = .returned (.bool true) ∧ Below w.heap.size w w' := by
  by_cases h20 : 20 < l.length
  · have g1 : (20 : Int) < (l.length : Int) := by omega
    go_enter Try.func3, Try.ntmps3
    go_wp2_with fail
    refine (awake14_any _).mono ?_; rintro e y1 ⟨rfl, hx2⟩
    go_wp2
    go_ret
    exact ⟨rfl, by (repeat (first | with_reducible exact Below.refl _ _ | with_reducible assumption | with_reducible refine Below.drew ?_ | with_reducible refine Below.drewN ?_ _ | with_reducible refine Below.alloc1 ?_ _ | with_reducible refine Below.setCell1 ?_ (by first | omega | (simp; done) | (simp; omega)) _ | with_reducible refine Below.step ?_ (by with_reducible assumption)))⟩
  have g1 : (l.length : Int) ≤ 20 := by omega
  have hl1 : l.length ≤ 1000 := by omega
  have HR := hide (show (eTake b r l n0 n1).1.length ≤ 1000 from Nat.le_trans (eTake_len b r l n0 n1) (by omega))
  have HC := hide (show (eClean b r l n1).length ≤ 1000 from Nat.le_trans (eClean_len b r l n1) (by omega))
  clear h20
  go_enter Try.func3, Try.ntmps3
  go_wp2_with fail
  generalize hV : World.alloc (World.alloc w _) _ = w1
  have hb0 : Below w.heap.size w w1 := by subst hV; (repeat (first | with_reducible exact Below.refl _ _ | with_reducible assumption | with_reducible refine Below.drew ?_ | with_reducible refine Below.drewN ?_ _ | with_reducible refine Below.alloc1 ?_ _ | with_reducible refine Below.setCell1 ?_ (by first | omega | (simp; done) | (simp; omega)) _ | with_reducible refine Below.step ?_ (by with_reducible assumption)))
  have k0 : Bk w1 w.heap.size 23 [.int .i64 b, .int .i64 r] := by subst hV; exact ((Bk.new' w 23 [.int .i64 b, .int .i64 r] _ rfl).alloc _)
  have kn : Bk w1 (w.heap.size + 1) 25 [.int .i64 n0, .int .i64 n1] := by subst hV; exact Bk.new' (World.alloc w _) 25 [.int .i64 n0, .int .i64 n1] _ (by simp)
  clear hV
  have rA := (ha.below hb0).more hb0.size
  have k0_0 := k0.cell 0; have k0_f0 := k0.frozen 0; have k0_1 := k0.cell 1; have k0_f1 := k0.frozen 1; simp only [List.set_cons_zero, List.set_cons_succ, List.getElem?_cons_zero, List.getElem?_cons_succ] at k0_0 k0_1; have lt_k0 := k0.lt; have kn_0 := kn.cell 0; have kn_f0 := kn.frozen 0; have kn_1 := kn.cell 1; have kn_f1 := kn.frozen 1; simp only [List.set_cons_zero, List.set_cons_succ, List.getElem?_cons_zero, List.getElem?_cons_succ] at kn_0 kn_1; have lt_kn := kn.lt
  have hOw := fun (W : World) (h : Below w1.heap.size w1 W) => law14_Own_own A c l W hl1 (rA.step h)
  go_upto_region 3 with fail
  go_cut [7, 8] from 17 to 130 (fun v7 v8 wx => ∃ gx X dX, v7 = .pointer (some ⟨gx, 0, none⟩) ∧ v8 = .slice X l.length dX ∧ w1.heap.size ≤ gx ∧ Bk wx gx 27 [.int .i64 b, .int .i64 r] ∧ Rd wx wx.heap.size X (enR l) ∧ Below w1.heap.size w1 wx)
  case first =>
    have HS : Hid (∀ w' : World, Below (w1.heap.size) w1 w' → (w'.cell? ⟨w.heap.size, 0, none⟩ = some (.int .i64 b) ∧ w'.cell? ⟨w.heap.size, 1, none⟩ = some (.int .i64 r)) ∧ w1.heap.size ≤ w'.heap.size ∧ Below (w1.heap.size) w1 w') := fun w' hB => ⟨⟨(hB.cell (p := ⟨w.heap.size, 0, none⟩) (by dsimp only; omega)).trans (k0_0), (hB.cell (p := ⟨w.heap.size, 1, none⟩) (by dsimp only; omega)).trans (k0_1)⟩, hB.size, hB⟩; go_region_held3 (fun w' => (w'.cell? ⟨w.heap.size, 0, none⟩ = some (.int .i64 b) ∧ w'.cell? ⟨w.heap.size, 1, none⟩ = some (.int .i64 r)) ∧ w1.heap.size ≤ w'.heap.size ∧ Below (w1.heap.size) w1 w') ((go_split_ands; exact HS.out _ (by (repeat (first | with_reducible exact Below.refl _ _ | with_reducible assumption | with_reducible refine Below.drew ?_ | with_reducible refine Below.drewN ?_ _ | with_reducible refine Below.alloc ?_ (by first | omega | (simp; done) | (simp; omega)) _ | with_reducible refine Below.setCell ?_ (by first | omega | (simp; done) | (simp; omega)) _ | with_reducible refine Below.then_ ?_ (by with_reducible assumption) (by first | omega | (simp; done) | (simp; omega))))))) ((go_at_call 7; refine (hOw _ (by (repeat (first | with_reducible exact Below.refl _ _ | with_reducible assumption | with_reducible refine Below.drew ?_ | with_reducible refine Below.drewN ?_ _ | with_reducible refine Below.alloc1 ?_ _ | with_reducible refine Below.setCell1 ?_ (by first | omega | (simp; done) | (simp; omega)) _ | with_reducible refine Below.step ?_ (by with_reducible assumption))))).mono ?_; rintro e w5 ⟨X5, d5, rfl, o5, hy5⟩; obtain ⟨hc_hy5, hf_hy5⟩ := bcell hy5; have hz_hy5 := hy5.size; (try simp at hz_hy5); (try have lt_w5_w1_0 : w1.heap.size < w5.heap.size := by omega); (try have lt_w5_w1_1 : w1.heap.size + 1 < w5.heap.size := by omega); (try have lt_w5_w1_2 : w1.heap.size + 1 + 1 < w5.heap.size := by omega)))
    all_goals
      go_wp2_with fail
      go_meet
      have hs56 := hy5.size
      (try simp at hs56)
      first
        | exact ⟨_, _, _, rfl, rfl, by omega, Bk.new' w5 27 [.int .i64 b, .int .i64 r] _ rfl, (own_rd o5).alloc1 _, by (repeat (first | with_reducible exact Below.refl _ _ | with_reducible assumption | with_reducible refine Below.drew ?_ | with_reducible refine Below.drewN ?_ _ | with_reducible refine Below.alloc1 ?_ _ | with_reducible refine Below.setCell1 ?_ (by first | omega | (simp; done) | (simp; omega)) _ | with_reducible refine Below.step ?_ (by with_reducible assumption)))⟩
        | exact ⟨_, X5, d5, rfl, rfl, by omega, (((Bk.drew (Bk.new _ 27 [.int .i64 0, .int .i64 0])).step hy5).set_ 0 _).set_ 1 _, own_rd (own_far (own_far o5 (by dsimp only; simp) _) (by dsimp only; simp) _), by refine Below.setCell1 (Below.setCell1 ?_ (by dsimp only; omega) _) (by dsimp only; omega) _; (repeat (first | with_reducible exact Below.refl _ _ | with_reducible assumption | with_reducible refine Below.drew ?_ | with_reducible refine Below.drewN ?_ _ | with_reducible refine Below.alloc1 ?_ _ | with_reducible refine Below.setCell1 ?_ (by first | omega | (simp; done) | (simp; omega)) _ | with_reducible refine Below.step ?_ (by with_reducible assumption)))⟩
  case rest =>
    obtain ⟨gx, X, dX, rfl, rfl, hgx, kx, rX, hy⟩ := hcut
    replace k0 := k0.step hy; (try clear k0_0 k0_f0 k0_1 k0_f1); have k0_0 := k0.cell 0; have k0_f0 := k0.frozen 0; have k0_1 := k0.cell 1; have k0_f1 := k0.frozen 1; simp only [List.set_cons_zero, List.set_cons_succ, List.getElem?_cons_zero, List.getElem?_cons_succ] at k0_0 k0_1; (try clear lt_k0); have lt_k0 := k0.lt; replace kn := kn.step hy; (try clear kn_0 kn_f0 kn_1 kn_f1); have kn_0 := kn.cell 0; have kn_f0 := kn.frozen 0; have kn_1 := kn.cell 1; have kn_f1 := kn.frozen 1; simp only [List.set_cons_zero, List.set_cons_succ, List.getElem?_cons_zero, List.getElem?_cons_succ] at kn_0 kn_1; (try clear lt_kn); have lt_kn := kn.lt
    replace rA := rA.step hy
    replace hb0 : Below w.heap.size w wc := hb0.step hy
    clear hy hOw
    have kx_0 := kx.cell 0; have kx_f0 := kx.frozen 0; have kx_1 := kx.cell 1; have kx_f1 := kx.frozen 1; simp only [List.set_cons_zero, List.set_cons_succ, List.getElem?_cons_zero, List.getElem?_cons_succ] at kx_0 kx_1; have lt_kx := kx.lt
    go_wp2_with fail
    refine (source_Take_any X dX b r l n0 n1 _ hl1 rX).mono ?_; rintro e y1 ⟨Aa, ca, rfl, ra, hy⟩
    replace k0 := k0.step hy; (try clear k0_0 k0_f0 k0_1 k0_f1); have k0_0 := k0.cell 0; have k0_f0 := k0.frozen 0; have k0_1 := k0.cell 1; have k0_f1 := k0.frozen 1; simp only [List.set_cons_zero, List.set_cons_succ, List.getElem?_cons_zero, List.getElem?_cons_succ] at k0_0 k0_1; (try clear lt_k0); have lt_k0 := k0.lt; replace kn := kn.step hy; (try clear kn_0 kn_f0 kn_1 kn_f1); have kn_0 := kn.cell 0; have kn_f0 := kn.frozen 0; have kn_1 := kn.cell 1; have kn_f1 := kn.frozen 1; simp only [List.set_cons_zero, List.set_cons_succ, List.getElem?_cons_zero, List.getElem?_cons_succ] at kn_0 kn_1; (try clear lt_kn); have lt_kn := kn.lt; replace kx := kx.step hy; (try clear kx_0 kx_f0 kx_1 kx_f1); have kx_0 := kx.cell 0; have kx_f0 := kx.frozen 0; have kx_1 := kx.cell 1; have kx_f1 := kx.frozen 1; simp only [List.set_cons_zero, List.set_cons_succ, List.getElem?_cons_zero, List.getElem?_cons_succ] at kx_0 kx_1; (try clear lt_kx); have lt_kx := kx.lt
    replace rA := rA.step hy
    replace rX := rX.step hy
    replace hb0 : Below w.heap.size w y1 := hb0.step hy
    clear hy
    go_wp2_with fail
    refine (r14_Take_any A c b r l n0 n1 _ hl1 hlc rA).mono ?_; rintro e y2 ⟨Ab, cb, rfl, rb, hy⟩
    replace k0 := k0.step hy; (try clear k0_0 k0_f0 k0_1 k0_f1); have k0_0 := k0.cell 0; have k0_f0 := k0.frozen 0; have k0_1 := k0.cell 1; have k0_f1 := k0.frozen 1; simp only [List.set_cons_zero, List.set_cons_succ, List.getElem?_cons_zero, List.getElem?_cons_succ] at k0_0 k0_1; (try clear lt_k0); have lt_k0 := k0.lt; replace kn := kn.step hy; (try clear kn_0 kn_f0 kn_1 kn_f1); have kn_0 := kn.cell 0; have kn_f0 := kn.frozen 0; have kn_1 := kn.cell 1; have kn_f1 := kn.frozen 1; simp only [List.set_cons_zero, List.set_cons_succ, List.getElem?_cons_zero, List.getElem?_cons_succ] at kn_0 kn_1; (try clear lt_kn); have lt_kn := kn.lt; replace kx := kx.step hy; (try clear kx_0 kx_f0 kx_1 kx_f1); have kx_0 := kx.cell 0; have kx_f0 := kx.frozen 0; have kx_1 := kx.cell 1; have kx_f1 := kx.frozen 1; simp only [List.set_cons_zero, List.set_cons_succ, List.getElem?_cons_zero, List.getElem?_cons_succ] at kx_0 kx_1; (try clear lt_kx); have lt_kx := kx.lt
    replace rA := rA.step hy
    replace rX := rX.step hy
    replace ra := ra.step hy
    replace hb0 : Below w.heap.size w y2 := hb0.step hy
    clear hy
    generalize eTake b r l n0 n1 = R at *
    have qR := HR.out
    have qC := HC.out
    go_wp2_with fail
    refine wp_region_m [(1, RowAt R.1.length (enR R.1)), (3, only (.bool true)), (16, only (.int .i64 (eLevel b r l n0 n1))), (23, only (.int .i64 (eLevel b r l n0 n1))), (33, only (.int .i64 (eWait b r l n0 n1))), (40, only (.int .i64 (eWait b r l n0 n1))), (48, RowAt (eClean b r l n1).length (enR (eClean b r l n1))), (49, RowAt (eClean b r l n1).length (enR (eClean b r l n1))), (54, RowAt (eClean b r l n1).length (enR (eClean b r l n1))), (55, only (.bool true)), (60, only (.int .i64 (eCheck b r l))), (63, only (.int .i64 (eCheck b r l))), (68, RowAt l.length (ints (eSrcs l))), (70, RowAt l.length (ints (eSrcs l))), (71, only (.bool true)), (76, only (.bool (decide (l = R.1)))), (79, only (.bool (decide (l = R.1)))), (84, RowAt l.length (enR l)), (86, only (.bool true)), (89, only (.bool true))] (by kernel_rfl) (lexB_of_fast (by kernel_rfl)) (by kernel_rfl) (by kernel_rfl) (sts_cons (sts_row _ _) (sts_cons (sts_only _) (sts_cons (sts_only _) (sts_cons (sts_only _) (sts_cons (sts_only _) (sts_cons (sts_only _) (sts_cons (sts_row _ _) (sts_cons (sts_row _ _) (sts_cons (sts_row _ _) (sts_cons (sts_only _) (sts_cons (sts_only _) (sts_cons (sts_only _) (sts_cons (sts_row _ _) (sts_cons (sts_row _ _) (sts_cons (sts_only _) (sts_cons (sts_only _) (sts_cons (sts_only _) (sts_cons (sts_row _ _) (sts_cons (sts_only _) (sts_cons (sts_only _) sts_nil)))))))))))))))))))) (fun kq => ?_); (try dsimp only [List.append])
    (repeat (refine wpM_via (by kernel_rfl) ?_; go_big_quiet_step (fail); refine wpQuiet_nil ?_))
    (refine wpM_spec _ (RowAt R.1.length (enR R.1)) (by kernel_rfl) (by kernel_rfl) rfl (later_some _) ?_ ?_; (focus (intro x hx hk; obtain ⟨px, rfl⟩ := hx; go_simp; (first | with_reducible refine mUpon_enter ?_ | with_reducible refine mUpon_value ?_); go_at_call 11; exact (law14_Back_any Aa ca R.1 _ qR (ra.step (below_regrown _ _ _))).mrow)); intro v hv K hK; obtain ⟨E1, e1, rfl⟩ := hv; go_big_quiet_op; refine hK _ ?_; clear hK K)
    (repeat (refine wpM_via (by kernel_rfl) ?_; go_big_quiet_step (fail); refine wpQuiet_nil ?_))
    (refine wpM_only _ (.bool true) (by kernel_rfl) (by kernel_rfl) rfl (later_some _) ?_ ?_; (focus (intro x hx hk; obtain ⟨px, rfl⟩ := hx; go_simp; (first | with_reducible refine mUpon_enter ?_ | with_reducible refine mUpon_value ?_); go_at_call 10; exact (r14_Same_self E1 Ab e1 cb R.1 _ qR (row_of (hk.1 (by kernel_rfl))) (rb.step (below_regrown _ _ _))).mo)); intro K hK; go_big_quiet_op; refine hK _ ?_; clear hK K)
    (repeat (refine wpM_via (by kernel_rfl) ?_; go_big_quiet_step (fail); refine wpQuiet_nil ?_))
    (refine wpM_only _ (.int .i64 (eLevel b r l n0 n1)) (by kernel_rfl) (by kernel_rfl) rfl (later_some _) ?_ ?_; (focus (intro x hx hk; obtain ⟨px, rfl⟩ := hx; go_simp; (first | with_reducible refine mUpon_enter ?_ | with_reducible refine mUpon_value ?_); go_at_call 12; exact (source_Level_any X dX b r l n0 n1 _ hl1 (rX.step (below_regrown _ _ _))).mo)); intro K hK; go_big_quiet_op; refine hK _ ?_; clear hK K)
    (repeat (refine wpM_via (by kernel_rfl) ?_; go_big_quiet_step (fail); refine wpQuiet_nil ?_))
    (refine wpM_only _ (.int .i64 (eLevel b r l n0 n1)) (by kernel_rfl) (by kernel_rfl) rfl (later_some _) ?_ ?_; (focus (intro x hx hk; obtain ⟨px, rfl⟩ := hx; go_simp; (first | with_reducible refine mUpon_enter ?_ | with_reducible refine mUpon_value ?_); go_at_call 13; exact (r14_Level_any A c b r l n0 n1 _ hl1 (rA.step (below_regrown _ _ _))).mo)); intro K hK; go_big_quiet_op; refine hK _ ?_; clear hK K)
    as_aux_lemma =>
      (repeat (refine wpM_via (by kernel_rfl) ?_; go_big_quiet_step (fail); refine wpQuiet_nil ?_))
      (refine wpM_only _ (.int .i64 (eWait b r l n0 n1)) (by kernel_rfl) (by kernel_rfl) rfl (later_some _) ?_ ?_; (focus (intro x hx hk; obtain ⟨px, rfl⟩ := hx; go_simp; (first | with_reducible refine mUpon_enter ?_ | with_reducible refine mUpon_value ?_); go_at_call 14; exact (source_Wait_any X dX b r l n0 n1 _ hl1 (rX.step (below_regrown _ _ _))).mo)); intro K hK; go_big_quiet_op; refine hK _ ?_; clear hK K)
      (repeat (refine wpM_via (by kernel_rfl) ?_; go_big_quiet_step (fail); refine wpQuiet_nil ?_))
      (refine wpM_only _ (.int .i64 (eWait b r l n0 n1)) (by kernel_rfl) (by kernel_rfl) rfl (later_some _) ?_ ?_; (focus (intro x hx hk; obtain ⟨px, rfl⟩ := hx; go_simp; (first | with_reducible refine mUpon_enter ?_ | with_reducible refine mUpon_value ?_); go_at_call 15; exact (r14_Wait_any A c b r l n0 n1 _ hl1 (rA.step (below_regrown _ _ _))).mo)); intro K hK; go_big_quiet_op; refine hK _ ?_; clear hK K)
      (repeat (refine wpM_via (by kernel_rfl) ?_; go_big_quiet_step (fail); refine wpQuiet_nil ?_))
      (refine wpM_spec _ (RowAt (eClean b r l n1).length (enR (eClean b r l n1))) (by kernel_rfl) (by kernel_rfl) rfl (later_some _) ?_ ?_; (focus (intro x hx hk; obtain ⟨px, rfl⟩ := hx; go_simp; (first | with_reducible refine mUpon_enter ?_ | with_reducible refine mUpon_value ?_); go_at_call 16; exact (source_Clean_rd X dX b r l n1 _ hl1 (rX.step (below_regrown _ _ _))).mrow)); intro v hv K hK; obtain ⟨E2, e2, rfl⟩ := hv; go_big_quiet_op; refine hK _ ?_; clear hK K)
      (repeat (refine wpM_via (by kernel_rfl) ?_; go_big_quiet_step (fail); refine wpQuiet_nil ?_))
      (refine wpM_spec _ (RowAt (eClean b r l n1).length (enR (eClean b r l n1))) (by kernel_rfl) (by kernel_rfl) rfl (later_some _) ?_ ?_; (focus (intro x hx hk; obtain ⟨px, rfl⟩ := hx; go_simp; (first | with_reducible refine mUpon_enter ?_ | with_reducible refine mUpon_value ?_); go_at_call 11; exact (law14_Back_any E2 e2 (eClean b r l n1) _ qC (row_of (hk.1 (by kernel_rfl)))).mrow)); intro v hv K hK; obtain ⟨E3, e3, rfl⟩ := hv; go_big_quiet_op; refine hK _ ?_; clear hK K)
      (repeat (refine wpM_via (by kernel_rfl) ?_; go_big_quiet_step (fail); refine wpQuiet_nil ?_))
      (refine wpM_spec _ (RowAt (eClean b r l n1).length (enR (eClean b r l n1))) (by kernel_rfl) (by kernel_rfl) rfl (later_some _) ?_ ?_; (focus (intro x hx hk; obtain ⟨px, rfl⟩ := hx; go_simp; (first | with_reducible refine mUpon_enter ?_ | with_reducible refine mUpon_value ?_); go_at_call 17; exact (r14_Clean_rd A c b r l n1 _ hl1 hlc (rA.step (below_regrown _ _ _))).mrow)); intro v hv K hK; obtain ⟨E4, e4, rfl⟩ := hv; go_big_quiet_op; refine hK _ ?_; clear hK K)
      as_aux_lemma =>
        (repeat (refine wpM_via (by kernel_rfl) ?_; go_big_quiet_step (fail); refine wpQuiet_nil ?_))
        (refine wpM_only _ (.bool true) (by kernel_rfl) (by kernel_rfl) rfl (later_some _) ?_ ?_; (focus (intro x hx hk; obtain ⟨px, rfl⟩ := hx; go_simp; (first | with_reducible refine mUpon_enter ?_ | with_reducible refine mUpon_value ?_); go_at_call 10; exact (r14_Same_self E3 E4 e3 e4 (eClean b r l n1) _ qC (row_of (hk.2.1 (by kernel_rfl))) (row_of (hk.1 (by kernel_rfl)))).mo)); intro K hK; go_big_quiet_op; refine hK _ ?_; clear hK K)
        (repeat (refine wpM_via (by kernel_rfl) ?_; go_big_quiet_step (fail); refine wpQuiet_nil ?_))
        (refine wpM_only _ (.int .i64 (eCheck b r l)) (by kernel_rfl) (by kernel_rfl) rfl (later_some _) ?_ ?_; (focus (intro x hx hk; obtain ⟨px, rfl⟩ := hx; go_simp; (first | with_reducible refine mUpon_enter ?_ | with_reducible refine mUpon_value ?_); go_at_call 18; exact (source_Check_any X dX b r l _ hl1 (rX.step (below_regrown _ _ _))).mo)); intro K hK; go_big_quiet_op; refine hK _ ?_; clear hK K)
        (repeat (refine wpM_via (by kernel_rfl) ?_; go_big_quiet_step (fail); refine wpQuiet_nil ?_))
        (refine wpM_only _ (.int .i64 (eCheck b r l)) (by kernel_rfl) (by kernel_rfl) rfl (later_some _) ?_ ?_; (focus (intro x hx hk; obtain ⟨px, rfl⟩ := hx; go_simp; (first | with_reducible refine mUpon_enter ?_ | with_reducible refine mUpon_value ?_); go_at_call 19; exact (r14_Check_any A c b r l _ hl1 (rA.step (below_regrown _ _ _))).mo)); intro K hK; go_big_quiet_op; refine hK _ ?_; clear hK K)
        (repeat (refine wpM_via (by kernel_rfl) ?_; go_big_quiet_step (fail); refine wpQuiet_nil ?_))
        (refine wpM_spec _ (RowAt l.length (ints (eSrcs l))) (by kernel_rfl) (by kernel_rfl) rfl (later_some _) ?_ ?_; (focus (intro x hx hk; obtain ⟨px, rfl⟩ := hx; go_simp; (first | with_reducible refine mUpon_enter ?_ | with_reducible refine mUpon_value ?_); go_at_call 21; exact (source_Sources_any X dX l _ hl1 (rX.step (below_regrown _ _ _))).mrow)); intro v hv K hK; obtain ⟨E5, e5, rfl⟩ := hv; go_big_quiet_op; refine hK _ ?_; clear hK K)
        (repeat (refine wpM_via (by kernel_rfl) ?_; go_big_quiet_step (fail); refine wpQuiet_nil ?_))
        (refine wpM_spec _ (RowAt l.length (ints (eSrcs l))) (by kernel_rfl) (by kernel_rfl) rfl (later_some _) ?_ ?_; (focus (intro x hx hk; obtain ⟨px, rfl⟩ := hx; go_simp; (first | with_reducible refine mUpon_enter ?_ | with_reducible refine mUpon_value ?_); go_at_call 22; exact (r14_Sources_any A c l _ hl1 (rA.step (below_regrown _ _ _))).mrow)); intro v hv K hK; obtain ⟨E6, e6, rfl⟩ := hv; go_big_quiet_op; refine hK _ ?_; clear hK K)
        as_aux_lemma =>
          (repeat (refine wpM_via (by kernel_rfl) ?_; go_big_quiet_step (fail); refine wpQuiet_nil ?_))
          (refine wpM_only _ (.bool true) (by kernel_rfl) (by kernel_rfl) rfl (later_some _) ?_ ?_; (focus (intro x hx hk; obtain ⟨px, rfl⟩ := hx; go_simp; (first | with_reducible refine mUpon_enter ?_ | with_reducible refine mUpon_value ?_); go_at_call 20; exact (SameInts_len E5 E6 e5 e6 l.length (eSrcs l) _ (by simp [eSrcs]) (by unfold maxLen; omega) (row_of (hk.2.1 (by kernel_rfl))) (row_of (hk.1 (by kernel_rfl)))).mo)); intro K hK; go_big_quiet_op; refine hK _ ?_; clear hK K)
          (repeat (refine wpM_via (by kernel_rfl) ?_; go_big_quiet_step (fail); refine wpQuiet_nil ?_))
          (refine wpM_only _ (.bool (decide (l = R.1))) (by kernel_rfl) (by kernel_rfl) rfl (later_some _) ?_ ?_; (focus (intro x hx hk; obtain ⟨px, rfl⟩ := hx; go_simp; (first | with_reducible refine mUpon_enter ?_ | with_reducible refine mUpon_value ?_); go_at_call 23; exact (source_Same_any X Aa dX ca l R.1 _ hl1 (rX.step (below_regrown _ _ _)) (ra.step (below_regrown _ _ _))).mo)); intro K hK; go_big_quiet_op; refine hK _ ?_; clear hK K)
          (repeat (refine wpM_via (by kernel_rfl) ?_; go_big_quiet_step (fail); refine wpQuiet_nil ?_))
          (refine wpM_only _ (.bool (decide (l = R.1))) (by kernel_rfl) (by kernel_rfl) rfl (later_some _) ?_ ?_; (focus (intro x hx hk; obtain ⟨px, rfl⟩ := hx; go_simp; (first | with_reducible refine mUpon_enter ?_ | with_reducible refine mUpon_value ?_); go_at_call 10; exact (r14_Same_b A Ab c cb l R.1 _ hl1 (rA.step (below_regrown _ _ _)) (rb.step (below_regrown _ _ _))).mo)); intro K hK; go_big_quiet_op; refine hK _ ?_; clear hK K)
          (repeat (refine wpM_via (by kernel_rfl) ?_; go_big_quiet_step (fail); refine wpQuiet_nil ?_))
          (refine wpM_spec _ (RowAt l.length (enR l)) (by kernel_rfl) (by kernel_rfl) rfl (later_some _) ?_ ?_; (focus (intro x hx hk; obtain ⟨px, rfl⟩ := hx; go_simp; (first | with_reducible refine mUpon_enter ?_ | with_reducible refine mUpon_value ?_); go_at_call 11; exact (law14_Back_any X dX l _ hl1 (rX.step (below_regrown _ _ _))).mrow)); intro v hv K hK; obtain ⟨E7, e7, rfl⟩ := hv; go_big_quiet_op; refine hK _ ?_; clear hK K)
          (repeat (refine wpM_via (by kernel_rfl) ?_; go_big_quiet_step (fail); refine wpQuiet_nil ?_))
          (refine wpM_only _ (.bool true) (by kernel_rfl) (by kernel_rfl) rfl (later_some _) ?_ ?_; (focus (intro x hx hk; obtain ⟨px, rfl⟩ := hx; go_simp; (first | with_reducible refine mUpon_enter ?_ | with_reducible refine mUpon_value ?_); go_at_call 10; exact (r14_Same_self E7 A e7 c l _ hl1 (row_of (hk.1 (by kernel_rfl))) (rA.step (below_regrown _ _ _))).mo)); intro K hK; go_big_quiet_op; refine hK _ ?_; clear hK K)
          (repeat (refine wpM_via (by kernel_rfl) ?_; go_big_quiet_step (fail); refine wpQuiet_nil ?_))
          (refine wpM_only _ (.bool true) (by kernel_rfl) (by kernel_rfl) rfl (later_some _) ?_ ?_; (focus (intro x hx hk; obtain ⟨px, rfl⟩ := hx; go_simp; (first | with_reducible refine mUpon_enter ?_ | with_reducible refine mUpon_value ?_); go_at_call 6; exact (awake14_any _).mo)); intro K hK; go_big_quiet_op; refine hK _ ?_; clear hK K)
          (repeat (refine wpM_via (by kernel_rfl) ?_; go_big_quiet_step (fail); refine wpQuiet_nil ?_))
          refine wpM_nil ?_; intro wq hwq hfq; have hbq := below_of_class hwq; clear hwq kq; (try dsimp only [List.drop])
          go_wp2
          go_ret
          exact ⟨rfl, hb0.step hbq⟩
end Go.Proofs.Ytpjepaaaanajhaa
