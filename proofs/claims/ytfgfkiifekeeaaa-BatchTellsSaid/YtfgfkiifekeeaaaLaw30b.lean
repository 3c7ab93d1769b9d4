/- The walk of BatchTells. -/
import Derived.Test.YtfgfkiifekeeaaaLaw30a
namespace Go.Proofs.Ytfgfkiifekeeaaa
open Go.RowKit Go.Shelf Go.Sort
set_option linter.unusedSimpArgs false
set_option linter.unusedVariables false

theorem row_mT {args : Array Value} {g : FuncId} {w : World} {l : List ByteArray} (h : Calls Try.prog g args w (RowPost w l)) : Calls Try.prog g args w (mPost (RowAt l.length (txts l)) w) :=
  h.mono fun _ _ ⟨B, d, he, hr, hb⟩ => ⟨_, he, ⟨B, d, rfl⟩, ⟨B, d, rfl, hr⟩, hb⟩
theorem SameTexts_self (A B : Option Addr) (c d : Nat) (l : List ByteArray) (w : World) (hl : l.length ≤ 1000) (ha : Rd w w.heap.size A (txts l)) (hb : Rd w w.heap.size B (txts l)) :
    Calls Try.prog 22 #[.slice A l.length c, .slice B l.length d] w fun e w' => e = .returned (.bool true) ∧ Below w.heap.size w w' := by
  have h := SameTexts_any A B c d l l w (by unfold maxLen; omega) ha hb
  rw [decide_eq_true rfl] at h
  exact h.mono fun _ _ ⟨he, hq⟩ => ⟨he, qt_below hq⟩
set_option maxRecDepth 1000000 in
set_option maxHeartbeats 16000000 in
theorem BatchTells_walk (A A' : Option Addr) (c c' : Nat) (l m : List Pb) (a s a' s' : Int) (n : Int) (w : World) (hl : l.length ≤ maxLen) (hc : l.length ≤ c) (hl' : m.length ≤ maxLen) (hc' : m.length ≤ c') (hn : n ≤ 9223372036854775807) (hr : Rd w w.heap.size A (pbs l)) (hr' : Rd w w.heap.size A' (pbs m)) (hm : MW w) :
    Calls Try.prog 4 #[bsV A l.length c a s, bsV A' m.length c' a' s', .int .i64 n] w fun e w' => e = .returned (.bool true) ∧ Below w.heap.size w w' := by
  have hL := fun (W : World) (h : Below w.heap.size w W) => ref30_Light_any A c l W hl ((hr.below h).more h.size)
  have hM := fun (W : World) (h : Below w.heap.size w W) => ref30_Light_any A' c' m W hl' ((hr'.below h).more h.size)
  cases hlt : bLight l with
  | false =>
    rw [hlt] at hL
    clear hlt hM
    go_enter Try.func4, Try.ntmps4
    go_wp2_with fail
    refine (hL _ (by (repeat (first | with_reducible exact Below.refl _ _ | with_reducible assumption | with_reducible refine Below.drew ?_ | with_reducible refine Below.drewN ?_ _ | with_reducible refine Below.alloc1 ?_ _ | with_reducible refine Below.setCell1 ?_ (by first | omega | (simp; done) | (simp; omega)) _ | with_reducible refine Below.step ?_ (by with_reducible assumption))))).mono ?_; rintro e w1 ⟨rfl, rfl⟩
    go_wp2_with fail
    refine (awake30 _ (hm.step (by (repeat (first | with_reducible exact Below.refl _ _ | with_reducible assumption | with_reducible refine Below.drew ?_ | with_reducible refine Below.drewN ?_ _ | with_reducible refine Below.alloc1 ?_ _ | with_reducible refine Below.setCell1 ?_ (by first | omega | (simp; done) | (simp; omega)) _ | with_reducible refine Below.step ?_ (by with_reducible assumption)))))).mono ?_; rintro e w1 ⟨rfl, hb⟩
    go_wp2_with fail
    go_ret
    exact ⟨rfl, (show Below w.heap.size w _ by (repeat (first | with_reducible exact Below.refl _ _ | with_reducible assumption | with_reducible refine Below.drew ?_ | with_reducible refine Below.drewN ?_ _ | with_reducible refine Below.alloc1 ?_ _ | with_reducible refine Below.setCell1 ?_ (by first | omega | (simp; done) | (simp; omega)) _ | with_reducible refine Below.step ?_ (by with_reducible assumption)))).step hb⟩
  | true =>
  rw [hlt] at hL
  obtain ⟨hl70, hS⟩ := bLight_ok hlt
  clear hlt
  cases hlt : bLight m with
  | false =>
    rw [hlt] at hM
    clear hlt
    go_enter Try.func4, Try.ntmps4
    go_wp2_with fail
    refine (hL _ (by (repeat (first | with_reducible exact Below.refl _ _ | with_reducible assumption | with_reducible refine Below.drew ?_ | with_reducible refine Below.drewN ?_ _ | with_reducible refine Below.alloc1 ?_ _ | with_reducible refine Below.setCell1 ?_ (by first | omega | (simp; done) | (simp; omega)) _ | with_reducible refine Below.step ?_ (by with_reducible assumption))))).mono ?_; rintro e w1 ⟨rfl, rfl⟩
    go_wp2_with fail
    refine (hM _ (by (repeat (first | with_reducible exact Below.refl _ _ | with_reducible assumption | with_reducible refine Below.drew ?_ | with_reducible refine Below.drewN ?_ _ | with_reducible refine Below.alloc1 ?_ _ | with_reducible refine Below.setCell1 ?_ (by first | omega | (simp; done) | (simp; omega)) _ | with_reducible refine Below.step ?_ (by with_reducible assumption))))).mono ?_; rintro e w1 ⟨rfl, rfl⟩
    go_wp2_with fail
    refine (awake30 _ (hm.step (by (repeat (first | with_reducible exact Below.refl _ _ | with_reducible assumption | with_reducible refine Below.drew ?_ | with_reducible refine Below.drewN ?_ _ | with_reducible refine Below.alloc1 ?_ _ | with_reducible refine Below.setCell1 ?_ (by first | omega | (simp; done) | (simp; omega)) _ | with_reducible refine Below.step ?_ (by with_reducible assumption)))))).mono ?_; rintro e w1 ⟨rfl, hb⟩
    go_wp2_with fail
    go_ret
    exact ⟨rfl, (show Below w.heap.size w _ by (repeat (first | with_reducible exact Below.refl _ _ | with_reducible assumption | with_reducible refine Below.drew ?_ | with_reducible refine Below.drewN ?_ _ | with_reducible refine Below.alloc1 ?_ _ | with_reducible refine Below.setCell1 ?_ (by first | omega | (simp; done) | (simp; omega)) _ | with_reducible refine Below.step ?_ (by with_reducible assumption)))).step hb⟩
  | true =>
  rw [hlt] at hM
  obtain ⟨hm70, _⟩ := bLight_ok hlt
  clear hlt
  have hl1 : l.length ≤ 1000 := by omega
  have hm1 : m.length ≤ 1000 := by omega
  clear hl hl' hl70 hm70
  have qU : (bUsers l).length ≤ 1000 := Nat.le_trans (bUsers_len l) hl1
  have fU := fun (B : Option Addr) (d : Nat) (W : World) (hR : Rd W W.heap.size B (pbs l)) => batch_Users_any B d l a s W hl1 hR
  have fU2 := fun (B : Option Addr) (d : Nat) (W : World) (hR : Rd W W.heap.size B (pbs l)) => ref30_Users_any B d l a s W hl1 hR
  have fC := fun (B : Option Addr) (d : Nat) (W : World) (hd : l.length ≤ d) (hW : MW W) (hR : Rd W W.heap.size B (pbs l)) => batch_Check_any B d l a s W hl1 hd hS hW hR
  have fC2 := fun (B : Option Addr) (d : Nat) (W : World) (hR : Rd W W.heap.size B (pbs l)) => ref30_Check_any B d l a s W hl1 hS hR
  have fR := fun (B : Option Addr) (d : Nat) (W : World) (hd : l.length ≤ d) (hW : MW W) (hR : Rd W W.heap.size B (pbs l)) => batch_Rounds_any B d l a s n W hl1 hd hS hW hR
  have fR2 := fun (B : Option Addr) (d : Nat) (W : World) (hR : Rd W W.heap.size B (pbs l)) => ref30_Rounds_any B d l a s n W hl1 hS hn hR
  have fS := fun (A B : Option Addr) (c d : Nat) (W : World) (hA : Rd W W.heap.size A (pbs l)) (hB : Rd W W.heap.size B (pbs m)) => batch_Same_any A B c d l m a s a' s' W hl1 hA hB
  have fS2 := fun (A B : Option Addr) (c d : Nat) (W : World) (hA : Rd W W.heap.size A (pbs l)) (hB : Rd W W.heap.size B (pbs m)) => ref30_Same_any A B c d l m a s a' s' W hl1 hA hB
  generalize bUsers l = U at *
  generalize bCheck ⟨l, a, s⟩ = C at *
  generalize bRounds ⟨l, a, s⟩ n = R at *
  generalize decide ((⟨l, a, s⟩ : Bs) = ⟨m, a', s'⟩) = D at *
  clear hS hn
  go_enter Try.func4, Try.ntmps4
  go_wp2_with fail
  generalize hV : World.alloc (World.alloc w _) _ = w1
  have hb : Below w.heap.size w w1 := by subst hV; (repeat (first | with_reducible exact Below.refl _ _ | with_reducible assumption | with_reducible refine Below.drew ?_ | with_reducible refine Below.drewN ?_ _ | with_reducible refine Below.alloc1 ?_ _ | with_reducible refine Below.setCell1 ?_ (by first | omega | (simp; done) | (simp; omega)) _ | with_reducible refine Below.step ?_ (by with_reducible assumption)))
  have k0 : Bk w1 w.heap.size 24 (bsC A l.length c a s) := by subst hV; (repeat (first | with_reducible exact Bk.new' _ _ _ _ (by simp; done) | with_reducible assumption | with_reducible refine Bk.alloc ?_ _ | with_reducible refine Bk.drew ?_ | with_reducible refine Bk.drewN ?_ _ | with_reducible refine Bk.step ?_ (by with_reducible assumption) | with_reducible refine Bk.far ?_ (by first | omega | (simp; done) | (simp; omega)) _))
  have kq : Bk w1 (w.heap.size + 1) 24 (bsC A' m.length c' a' s') := by subst hV; exact Bk.new' _ _ (bsC A' m.length c' a' s') _ (by simp)
  clear hV
  refine (hL _ hb).mono ?_; rintro e w2 ⟨rfl, rfl⟩
  have k0_0 := k0.cell 0; have k0_f0 := k0.frozen 0; have k0_1 := k0.cell 1; have k0_f1 := k0.frozen 1; have k0_2 := k0.cell 2; have k0_f2 := k0.frozen 2; simp only [List.set_cons_zero, List.set_cons_succ, List.getElem?_cons_zero, List.getElem?_cons_succ] at k0_0 k0_1 k0_2; have lt_k0 := k0.lt; have kq_0 := kq.cell 0; have kq_f0 := kq.frozen 0; have kq_1 := kq.cell 1; have kq_f1 := kq.frozen 1; have kq_2 := kq.cell 2; have kq_f2 := kq.frozen 2; simp only [List.set_cons_zero, List.set_cons_succ, List.getElem?_cons_zero, List.getElem?_cons_succ] at kq_0 kq_1 kq_2; have lt_kq := kq.lt
  go_wp2_with fail
  refine (hM _ hb).mono ?_; rintro e w2 ⟨rfl, rfl⟩
  have rS := (hr.below hb).more hb.size
  have rQ := (hr'.below hb).more hb.size
  replace hm := hm.step hb
  clear hL hr hM hr'
  go_wp2_with fail
  refine (law_own_any A c l a s _ hl1 rS).mono ?_; rintro e w2 ⟨VO, rfl, ⟨O, d, rfl, hd, rO⟩, hx⟩
  replace hb := hb.step hx
  replace hm := hm.step hx
  replace rS := rS.step hx
  replace rQ := rQ.step hx
  replace k0 := k0.step hx; (try clear k0_0 k0_f0 k0_1 k0_f1 k0_2 k0_f2); have k0_0 := k0.cell 0; have k0_f0 := k0.frozen 0; have k0_1 := k0.cell 1; have k0_f1 := k0.frozen 1; have k0_2 := k0.cell 2; have k0_f2 := k0.frozen 2; simp only [List.set_cons_zero, List.set_cons_succ, List.getElem?_cons_zero, List.getElem?_cons_succ] at k0_0 k0_1 k0_2; (try clear lt_k0); have lt_k0 := k0.lt; replace kq := kq.step hx; (try clear kq_0 kq_f0 kq_1 kq_f1 kq_2 kq_f2); have kq_0 := kq.cell 0; have kq_f0 := kq.frozen 0; have kq_1 := kq.cell 1; have kq_f1 := kq.frozen 1; have kq_2 := kq.cell 2; have kq_f2 := kq.frozen 2; simp only [List.set_cons_zero, List.set_cons_succ, List.getElem?_cons_zero, List.getElem?_cons_succ] at kq_0 kq_1 kq_2; (try clear lt_kq); have lt_kq := kq.lt
  clear hx
  go_wp2_with fail
  generalize hV : World.alloc w2 _ = wc
  have hx : Below w2.heap.size w2 wc := by subst hV; (repeat (first | with_reducible exact Below.refl _ _ | with_reducible assumption | with_reducible refine Below.drew ?_ | with_reducible refine Below.drewN ?_ _ | with_reducible refine Below.alloc1 ?_ _ | with_reducible refine Below.setCell1 ?_ (by first | omega | (simp; done) | (simp; omega)) _ | with_reducible refine Below.step ?_ (by with_reducible assumption)))
  have kO : Bk wc w2.heap.size 31 (bsC O l.length d a s) := by subst hV; exact Bk.new w2 _ _
  clear hV
  replace hb := hb.step hx
  replace hm := hm.step hx
  replace rS := rS.step hx
  replace rO := rO.step hx
  replace rQ := rQ.step hx
  replace k0 := k0.step hx; (try clear k0_0 k0_f0 k0_1 k0_f1 k0_2 k0_f2); have k0_0 := k0.cell 0; have k0_f0 := k0.frozen 0; have k0_1 := k0.cell 1; have k0_f1 := k0.frozen 1; have k0_2 := k0.cell 2; have k0_f2 := k0.frozen 2; simp only [List.set_cons_zero, List.set_cons_succ, List.getElem?_cons_zero, List.getElem?_cons_succ] at k0_0 k0_1 k0_2; (try clear lt_k0); have lt_k0 := k0.lt; replace kq := kq.step hx; (try clear kq_0 kq_f0 kq_1 kq_f1 kq_2 kq_f2); have kq_0 := kq.cell 0; have kq_f0 := kq.frozen 0; have kq_1 := kq.cell 1; have kq_f1 := kq.frozen 1; have kq_2 := kq.cell 2; have kq_f2 := kq.frozen 2; simp only [List.set_cons_zero, List.set_cons_succ, List.getElem?_cons_zero, List.getElem?_cons_succ] at kq_0 kq_1 kq_2; (try clear lt_kq); have lt_kq := kq.lt
  clear hx
  have kO_0 := kO.cell 0; have kO_f0 := kO.frozen 0; have kO_1 := kO.cell 1; have kO_f1 := kO.frozen 1; have kO_2 := kO.cell 2; have kO_f2 := kO.frozen 2; simp only [List.set_cons_zero, List.set_cons_succ, List.getElem?_cons_zero, List.getElem?_cons_succ] at kO_0 kO_1 kO_2; have lt_kO := kO.lt
  refine wp_region_m [(1, only (.int .i64 C)), (3, only (.int .i64 C)), (7, RowAt U.length (txts U)), (9, RowAt U.length (txts U)), (10, only (.bool true)), (15, only (.int .i64 R)), (18, only (.int .i64 R)), (24, StAt ⟨m, a', s'⟩), (25, only (.bool D)), (28, only (.bool D)), (32, only (.bool true))] (by kernel_rfl) (by kernel_rfl) (by kernel_rfl) (by kernel_rfl) (sts_cons (sts_only _) (sts_cons (sts_only _) (sts_cons (sts_row _ _) (sts_cons (sts_row _ _) (sts_cons (sts_only _) (sts_cons (sts_only _) (sts_cons (sts_only _) (sts_cons (sts_st _) (sts_cons (sts_only _) (sts_cons (sts_only _) (sts_cons (sts_only _) sts_nil))))))))))) (fun kq => ?_); (try dsimp only [List.append])
  (repeat (refine wpM_via (by kernel_rfl) ?_; go_big_quiet_step (fail); refine wpQuiet_nil ?_))
  (refine wpM_only _ (.int .i64 C) (by kernel_rfl) (by kernel_rfl) rfl (later_some _) ?_ ?_; (focus (intro x hx hk; obtain ⟨px, rfl⟩ := hx; go_simp; (first | with_reducible refine mUpon_enter ?_ | with_reducible refine mUpon_value ?_); go_at_call 20; exact (fC O d _ hd (hm.step (below_regrown wc _ _)) (rO.step (below_regrown wc _ _))).mo)); intro K hK; go_big_quiet_op; refine hK _ ?_; clear hK K)
  (repeat (refine wpM_via (by kernel_rfl) ?_; go_big_quiet_step (fail); refine wpQuiet_nil ?_))
  (refine wpM_only _ (.int .i64 C) (by kernel_rfl) (by kernel_rfl) rfl (later_some _) ?_ ?_; (focus (intro x hx hk; obtain ⟨px, rfl⟩ := hx; go_simp; (first | with_reducible refine mUpon_enter ?_ | with_reducible refine mUpon_value ?_); go_at_call 21; exact (fC2 A c _ (rS.step (below_regrown wc _ _))).mo)); intro K hK; go_big_quiet_op; refine hK _ ?_; clear hK K)
  (repeat (refine wpM_via (by kernel_rfl) ?_; go_big_quiet_step (fail); refine wpQuiet_nil ?_))
  (refine wpM_spec _ (RowAt U.length (txts U)) (by kernel_rfl) (by kernel_rfl) rfl (later_some _) ?_ ?_; (focus (intro x hx hk; obtain ⟨px, rfl⟩ := hx; go_simp; (first | with_reducible refine mUpon_enter ?_ | with_reducible refine mUpon_value ?_); go_at_call 23; exact row_mT (fU O d _ (rO.step (below_regrown wc _ _))))); intro v hv K hK; obtain ⟨E1, e1, rfl⟩ := hv; go_big_quiet_op; refine hK _ ?_; clear hK K)
  (repeat (refine wpM_via (by kernel_rfl) ?_; go_big_quiet_step (fail); refine wpQuiet_nil ?_))
  (refine wpM_spec _ (RowAt U.length (txts U)) (by kernel_rfl) (by kernel_rfl) rfl (later_some _) ?_ ?_; (focus (intro x hx hk; obtain ⟨px, rfl⟩ := hx; go_simp; (first | with_reducible refine mUpon_enter ?_ | with_reducible refine mUpon_value ?_); go_at_call 24; exact row_mT (fU2 A c _ (rS.step (below_regrown wc _ _))))); intro v hv K hK; obtain ⟨E2, e2, rfl⟩ := hv; go_big_quiet_op; refine hK _ ?_; clear hK K)
  (repeat (refine wpM_via (by kernel_rfl) ?_; go_big_quiet_step (fail); refine wpQuiet_nil ?_))
  (refine wpM_only _ (.bool true) (by kernel_rfl) (by kernel_rfl) rfl (later_some _) ?_ ?_; (focus (intro x hx hk; obtain ⟨px, rfl⟩ := hx; go_simp; (first | with_reducible refine mUpon_enter ?_ | with_reducible refine mUpon_value ?_); go_at_call 22; exact (SameTexts_self E1 E2 e1 e2 U _ qU (row_of (hk.2.1 (by kernel_rfl))) (row_of (hk.1 (by kernel_rfl)))).mo)); intro K hK; go_big_quiet_op; refine hK _ ?_; clear hK K)
  (repeat (refine wpM_via (by kernel_rfl) ?_; go_big_quiet_step (fail); refine wpQuiet_nil ?_))
  (refine wpM_only _ (.int .i64 R) (by kernel_rfl) (by kernel_rfl) rfl (later_some _) ?_ ?_; (focus (intro x hx hk; obtain ⟨px, rfl⟩ := hx; go_simp; (first | with_reducible refine mUpon_enter ?_ | with_reducible refine mUpon_value ?_); go_at_call 25; exact (fR O d _ hd (hm.step (below_regrown wc _ _)) (rO.step (below_regrown wc _ _))).mo)); intro K hK; go_big_quiet_op; refine hK _ ?_; clear hK K)
  (repeat (refine wpM_via (by kernel_rfl) ?_; go_big_quiet_step (fail); refine wpQuiet_nil ?_))
  (refine wpM_only _ (.int .i64 R) (by kernel_rfl) (by kernel_rfl) rfl (later_some _) ?_ ?_; (focus (intro x hx hk; obtain ⟨px, rfl⟩ := hx; go_simp; (first | with_reducible refine mUpon_enter ?_ | with_reducible refine mUpon_value ?_); go_at_call 26; exact (fR2 A c _ (rS.step (below_regrown wc _ _))).mo)); intro K hK; go_big_quiet_op; refine hK _ ?_; clear hK K)
  (repeat (refine wpM_via (by kernel_rfl) ?_; go_big_quiet_step (fail); refine wpQuiet_nil ?_))
  (refine wpM_spec _ (StAt ⟨m, a', s'⟩) (by kernel_rfl) (by kernel_rfl) rfl (later_some _) ?_ ?_; (focus (intro x hx hk; obtain ⟨px, rfl⟩ := hx; go_simp; (first | with_reducible refine mUpon_enter ?_ | with_reducible refine mUpon_value ?_); go_at_call 9; exact st_mF (law_own_any A' c' m a' s' _ hm1 (rQ.step (below_regrown wc _ _))))); intro v hv K hK; obtain ⟨E3, e3, rfl⟩ := hv; go_big_quiet_op; refine hK _ ?_; clear hK K)
  (repeat (refine wpM_via (by kernel_rfl) ?_; go_big_quiet_step (fail); refine wpQuiet_nil ?_))
  (refine wpM_only _ (.bool D) (by kernel_rfl) (by kernel_rfl) rfl (later_some _) ?_ ?_; (focus (intro x hx hk; obtain ⟨px, rfl⟩ := hx; go_simp; (first | with_reducible refine mUpon_enter ?_ | with_reducible refine mUpon_value ?_); go_at_call 27; exact (fS O E3 d e3 _ (rO.step (below_regrown wc _ _)) (st_of (x := ⟨m, a', s'⟩) (hk.1 (by kernel_rfl)))).mo)); intro K hK; go_big_quiet_op; refine hK _ ?_; clear hK K)
  (repeat (refine wpM_via (by kernel_rfl) ?_; go_big_quiet_step (fail); refine wpQuiet_nil ?_))
  (refine wpM_only _ (.bool D) (by kernel_rfl) (by kernel_rfl) rfl (later_some _) ?_ ?_; (focus (intro x hx hk; obtain ⟨px, rfl⟩ := hx; go_simp; (first | with_reducible refine mUpon_enter ?_ | with_reducible refine mUpon_value ?_); go_at_call 14; exact (fS2 A A' c c' _ (rS.step (below_regrown wc _ _)) (rQ.step (below_regrown wc _ _))).mo)); intro K hK; go_big_quiet_op; refine hK _ ?_; clear hK K)
  (repeat (refine wpM_via (by kernel_rfl) ?_; go_big_quiet_step (fail); refine wpQuiet_nil ?_))
  (refine wpM_only _ (.bool true) (by kernel_rfl) (by kernel_rfl) rfl (later_some _) ?_ ?_; (focus (intro x hx hk; obtain ⟨px, rfl⟩ := hx; go_simp; (first | with_reducible refine mUpon_enter ?_ | with_reducible refine mUpon_value ?_); go_at_call 8; exact (awake30 _ (hm.step (below_regrown wc _ _))).mo)); intro K hK; go_big_quiet_op; refine hK _ ?_; clear hK K)
  (repeat (refine wpM_via (by kernel_rfl) ?_; go_big_quiet_step (fail); refine wpQuiet_nil ?_))
  refine wpM_nil ?_; intro wq hwq hfq; have hbq := below_of_class hwq; clear hwq kq; (try dsimp only [List.drop])
  go_wp2_with fail
  go_ret
  exact ⟨by simp, hb.step hbq⟩
end Go.Proofs.Ytfgfkiifekeeaaa
