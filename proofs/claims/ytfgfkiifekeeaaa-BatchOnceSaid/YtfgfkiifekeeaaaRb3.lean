/- The reference of package batch: Put, Take, Forget. -/
import Derived.Test.YtfgfkiifekeeaaaRb2
import Derived.Test.YtfgfkiifekeeaaaC0
namespace Go.Proofs.Ytfgfkiifekeeaaa
open Go.RowKit Go.Shelf Go.Sort
set_option linter.unusedSimpArgs false
set_option linter.unusedVariables false

theorem rb_info : (Try.prog.info? 26).map (fun i => (i.zero, i.size, i.bytes)) = some (some (pbV ⟨⟨#[]⟩, ⟨#[]⟩⟩), 2, 32) := by kernel_rfl
set_option maxRecDepth 1000000 in
set_option maxHeartbeats 8000000 in
theorem ref30_Put_any (A : Option Addr) (c : Nat) (l : List Pb) (a s : Int) (y z : ByteArray) (w : World) (hl : l.length ≤ 1000) (hc : l.length ≤ c) (hS : ∀ x ∈ l, Sm x) (hp : Sm ⟨y, z⟩) (ha : Rd w w.heap.size A (pbs l)) :
    Calls Try.prog 11 #[bsV A l.length c a s, .string y, .string z] w (PutPost w (bPut ⟨l, a, s⟩ ⟨y, z⟩)) := by
  have HC := fun (W : World) (h : Below w.heap.size w W) => ref30_Check_any A c l a s W hl hS ((ha.below h).more h.size)
  have HW := fun (W : World) => ref30_fine_any ⟨y, z⟩ hp W
  have HN := fun (W : World) (h : Below w.heap.size w W) => ref30_place_any A c l ⟨y, z⟩ W (by unfold maxLen; omega) ((ha.below h).more h.size)
  have hpm := place_mem l ⟨y, z⟩
  generalize idxI (fun x => decide (x = (⟨y, z⟩ : Pb))) l = q at *
  obtain ⟨R, hR⟩ : ∃ R, R = bPut ⟨l, a, s⟩ ⟨y, z⟩ := ⟨_, rfl⟩
  rw [← hR]
  unfold bPut at hR
  dsimp only at hR
  have hok : bCheck ⟨l, a, s⟩ = 0 → Hid (l.length ≤ 64 ∧ bIn s = true) := fun h => ⟨(bCheck_ok h).1, (bCheck_ok h).2.2.2.2⟩
  generalize bCheck ⟨l, a, s⟩ = C at *
  generalize bFine ⟨y, z⟩ = F at *
  replace hR := hide hR
  replace hok := hide hok
  replace hpm := hide hpm
  go_enter Try.func11, Try.ntmps11
  go_wp2_with fail
  generalize hV : World.alloc (World.alloc (World.alloc w _) _) _ = w1
  have hb : Below w.heap.size w w1 := by subst hV; (repeat (first | with_reducible exact Below.refl _ _ | with_reducible assumption | with_reducible refine Below.drew ?_ | with_reducible refine Below.drewN ?_ _ | with_reducible refine Below.alloc1 ?_ _ | with_reducible refine Below.setCell1 ?_ (by first | omega | (simp; done) | (simp; omega)) _ | with_reducible refine Below.step ?_ (by with_reducible assumption)))
  have k3 : Bk w1 w.heap.size 24 (bsC A l.length c a s) := by subst hV; (repeat (first | with_reducible exact Bk.new' _ _ _ _ (by simp; done) | with_reducible assumption | with_reducible refine Bk.alloc ?_ _ | with_reducible refine Bk.drew ?_ | with_reducible refine Bk.drewN ?_ _ | with_reducible refine Bk.step ?_ (by with_reducible assumption) | with_reducible refine Bk.far ?_ (by first | omega | (simp; done) | (simp; omega)) _))
  have k6 : Bk w1 (w.heap.size + 1) 24 (bsC none 0 0 0 0) := by subst hV; (repeat (first | with_reducible exact Bk.new' _ _ _ _ (by simp; done) | with_reducible assumption | with_reducible refine Bk.alloc ?_ _ | with_reducible refine Bk.drew ?_ | with_reducible refine Bk.drewN ?_ _ | with_reducible refine Bk.step ?_ (by with_reducible assumption) | with_reducible refine Bk.far ?_ (by first | omega | (simp; done) | (simp; omega)) _))
  have k9 : Bk w1 (w.heap.size + 1 + 1) 26 (pbC ⟨y, z⟩) := by subst hV; exact Bk.new' _ _ (pbC ⟨y, z⟩) _ (by simp)
  clear hV
  refine (HC _ hb).mono ?_; rintro e w2 ⟨rfl, hx⟩
  replace hb := hb.step hx
  replace k3 := k3.step hx
  replace k6 := k6.step hx
  replace k9 := k9.step hx
  clear hx
  have k3_0 := k3.cell 0; have k3_f0 := k3.frozen 0; have k3_1 := k3.cell 1; have k3_f1 := k3.frozen 1; have k3_2 := k3.cell 2; have k3_f2 := k3.frozen 2; simp only [List.set_cons_zero, List.set_cons_succ, List.getElem?_cons_zero, List.getElem?_cons_succ] at k3_0 k3_1 k3_2; have lt_k3 := k3.lt; have k6_0 := k6.cell 0; have k6_f0 := k6.frozen 0; have k6_1 := k6.cell 1; have k6_f1 := k6.frozen 1; have k6_2 := k6.cell 2; have k6_f2 := k6.frozen 2; simp only [List.set_cons_zero, List.set_cons_succ, List.getElem?_cons_zero, List.getElem?_cons_succ] at k6_0 k6_1 k6_2; have lt_k6 := k6.lt; have k9_0 := k9.cell 0; have k9_f0 := k9.frozen 0; have k9_1 := k9.cell 1; have k9_f1 := k9.frozen 1; simp only [List.set_cons_zero, List.set_cons_succ, List.getElem?_cons_zero, List.getElem?_cons_succ] at k9_0 k9_1; have lt_k9 := k9.lt
  by_cases hC0 : C ≠ 0
  · have e0 : (C != 0) = true := by simpa using hC0
    replace hR := hide (hR.out.trans (if_pos hC0))
    clear hC0 hok
    go_wp2_with fail
    refine wp_region_mt 3 [(2, only (.int .i64 C))] (by kernel_rfl) (by kernel_rfl) (by kernel_rfl) (by kernel_rfl) (sts_cons (sts_only _) sts_nil) (fun kq => ?_); (try dsimp only [List.append, List.take])
    (repeat (refine wpM_via (by kernel_rfl) ?_; go_big_quiet_step (fail); refine wpQuiet_nil ?_))
    (refine wpM_only _ (.int .i64 C) (by kernel_rfl) (by kernel_rfl) rfl (later_some _) ?_ ?_; (focus (intro x hx hk; obtain ⟨px, rfl⟩ := hx; go_simp; (first | with_reducible refine mUpon_enter ?_ | with_reducible refine mUpon_value ?_); go_at_call 21; exact (HC _ (hb.step (below_regrown w2 _ _))).mo)); intro K hK; go_big_quiet_op; refine hK _ ?_; clear hK K)
    refine wpM_nil ?_; intro wq hwq hfq; have hbq := below_of_class hwq; clear hwq kq; (try dsimp only [List.drop])
    replace k3 := k3.step hbq; (try clear k3_0 k3_f0 k3_1 k3_f1 k3_2 k3_f2); have k3_0 := k3.cell 0; have k3_f0 := k3.frozen 0; have k3_1 := k3.cell 1; have k3_f1 := k3.frozen 1; have k3_2 := k3.cell 2; have k3_f2 := k3.frozen 2; simp only [List.set_cons_zero, List.set_cons_succ, List.getElem?_cons_zero, List.getElem?_cons_succ] at k3_0 k3_1 k3_2; (try clear lt_k3); have lt_k3 := k3.lt; replace k6 := k6.step hbq; (try clear k6_0 k6_f0 k6_1 k6_f1 k6_2 k6_f2); have k6_0 := k6.cell 0; have k6_f0 := k6.frozen 0; have k6_1 := k6.cell 1; have k6_f1 := k6.frozen 1; have k6_2 := k6.cell 2; have k6_f2 := k6.frozen 2; simp only [List.set_cons_zero, List.set_cons_succ, List.getElem?_cons_zero, List.getElem?_cons_succ] at k6_0 k6_1 k6_2; (try clear lt_k6); have lt_k6 := k6.lt
    replace hb := hb.step hbq
    clear hfq hbq HC
    go_wp2_with (first | (refine wpList_store_row rfl 24 _ _ rfl _ (bsC A l.length c a s).toArray rfl rfl _ _ k6 (by kernel_rfl) (by kernel_rfl) (by kernel_rfl) ?_))
    have r6 := k6.srow (bsC A l.length c a s)
    have hbr := srow_below hb (Nat.le_succ w.heap.size) (bsC A l.length c a s).toArray
    exact bodyPost_ret (v := .tuple #[bsV A l.length c a s, .int .i64 C]) (results_row_val rfl _ _ _ _ _ _ _ rfl rfl r6 Try.underlying24 rfl (by kernel_rfl)) rfl ⟨_, by rw [hR.out], by rw [hR.out]; exact ⟨A, c, rfl, hc, (ha.below hbr).more hbr.size⟩, hbr⟩
  obtain rfl : C = 0 := Classical.not_not.1 hC0
  clear hC0 HC
  have hok2 := hok.out rfl
  replace hR := hide (hR.out.trans (if_neg (fun h => h rfl)))
  clear hok
  go_wp2_with fail
  refine (HW _).mono ?_; rintro e w4 ⟨rfl, hx⟩
  replace hb := hb.step hx
  replace k3 := k3.step hx; (try clear k3_0 k3_f0 k3_1 k3_f1 k3_2 k3_f2); have k3_0 := k3.cell 0; have k3_f0 := k3.frozen 0; have k3_1 := k3.cell 1; have k3_f1 := k3.frozen 1; have k3_2 := k3.cell 2; have k3_f2 := k3.frozen 2; simp only [List.set_cons_zero, List.set_cons_succ, List.getElem?_cons_zero, List.getElem?_cons_succ] at k3_0 k3_1 k3_2; (try clear lt_k3); have lt_k3 := k3.lt; replace k6 := k6.step hx; (try clear k6_0 k6_f0 k6_1 k6_f1 k6_2 k6_f2); have k6_0 := k6.cell 0; have k6_f0 := k6.frozen 0; have k6_1 := k6.cell 1; have k6_f1 := k6.frozen 1; have k6_2 := k6.cell 2; have k6_f2 := k6.frozen 2; simp only [List.set_cons_zero, List.set_cons_succ, List.getElem?_cons_zero, List.getElem?_cons_succ] at k6_0 k6_1 k6_2; (try clear lt_k6); have lt_k6 := k6.lt; replace k9 := k9.step hx; (try clear k9_0 k9_f0 k9_1 k9_f1); have k9_0 := k9.cell 0; have k9_f0 := k9.frozen 0; have k9_1 := k9.cell 1; have k9_f1 := k9.frozen 1; simp only [List.set_cons_zero, List.set_cons_succ, List.getElem?_cons_zero, List.getElem?_cons_succ] at k9_0 k9_1; (try clear lt_k9); have lt_k9 := k9.lt
  clear hx HW
  cases F with
  | false =>
    replace hR := hide (hR.out.trans (if_pos rfl))
    go_wp2_with (first | (refine wpList_store_row rfl 24 _ _ rfl _ (bsC A l.length c a s).toArray rfl rfl _ _ k6 (by kernel_rfl) (by kernel_rfl) (by kernel_rfl) ?_))
    have r6 := k6.srow (bsC A l.length c a s)
    have hbr := srow_below hb (Nat.le_succ w.heap.size) (bsC A l.length c a s).toArray
    exact bodyPost_ret (v := .tuple #[bsV A l.length c a s, .int .i64 11]) (results_row_val rfl _ _ _ _ _ _ _ rfl rfl r6 Try.underlying24 rfl (by kernel_rfl)) rfl ⟨_, by rw [hR.out], by rw [hR.out]; exact ⟨A, c, rfl, hc, (ha.below hbr).more hbr.size⟩, hbr⟩
  | true =>
    replace hR := hide (hR.out.trans (if_neg (by decide)))
    go_wp2_with fail
    refine (HN _ hb).mono ?_; rintro e w5 ⟨rfl, hx⟩
    replace hb := hb.step hx
    replace k3 := k3.step hx; (try clear k3_0 k3_f0 k3_1 k3_f1 k3_2 k3_f2); have k3_0 := k3.cell 0; have k3_f0 := k3.frozen 0; have k3_1 := k3.cell 1; have k3_f1 := k3.frozen 1; have k3_2 := k3.cell 2; have k3_f2 := k3.frozen 2; simp only [List.set_cons_zero, List.set_cons_succ, List.getElem?_cons_zero, List.getElem?_cons_succ] at k3_0 k3_1 k3_2; (try clear lt_k3); have lt_k3 := k3.lt; replace k6 := k6.step hx; (try clear k6_0 k6_f0 k6_1 k6_f1 k6_2 k6_f2); have k6_0 := k6.cell 0; have k6_f0 := k6.frozen 0; have k6_1 := k6.cell 1; have k6_f1 := k6.frozen 1; have k6_2 := k6.cell 2; have k6_f2 := k6.frozen 2; simp only [List.set_cons_zero, List.set_cons_succ, List.getElem?_cons_zero, List.getElem?_cons_succ] at k6_0 k6_1 k6_2; (try clear lt_k6); have lt_k6 := k6.lt; replace k9 := k9.step hx; (try clear k9_0 k9_f0 k9_1 k9_f1); have k9_0 := k9.cell 0; have k9_f0 := k9.frozen 0; have k9_1 := k9.cell 1; have k9_f1 := k9.frozen 1; simp only [List.set_cons_zero, List.set_cons_succ, List.getElem?_cons_zero, List.getElem?_cons_succ] at k9_0 k9_1; (try clear lt_k9); have lt_k9 := k9.lt
    clear hx HN
    by_cases hin : (⟨y, z⟩ : Pb) ∈ l
    · have hq : 0 ≤ q := by have := hpm.out; rw [decide_eq_true hin] at this; simpa using this
      replace hR := hide (hR.out.trans (if_pos hin))
      clear hin hpm
      have hs := bIn_iff hok2.out.2
      clear hok2
      obtain ⟨h0, h1⟩ := hs
      go_upto_region 8 with fail
      rw [Int.min_comm]
      generalize hV : World.setCell w5 _ _ = w6
      replace hb : Below w.heap.size w w6 := by subst hV; exact hb.setCell (Nat.le_refl _) _
      have kA : Bk w6 w.heap.size 24 (bsC A l.length c a (min (s + 1) 1099511627776)) := by subst hV; exact k3.set_ 2 _
      have kB : Bk w6 (w.heap.size + 1) 24 (bsC none 0 0 0 0) := by subst hV; exact k6.far (by dsimp only; omega) _
      clear hV
      (try clear k3_0 k3_f0 k3_1 k3_f1 k3_2 k3_f2 lt_k3) ; (try clear k6_0 k6_f0 k6_1 k6_f1 k6_2 k6_f2 lt_k6)
      clear k3 k6
      have kA_0 := kA.cell 0; have kA_f0 := kA.frozen 0; have kA_1 := kA.cell 1; have kA_f1 := kA.frozen 1; have kA_2 := kA.cell 2; have kA_f2 := kA.frozen 2; simp only [List.set_cons_zero, List.set_cons_succ, List.getElem?_cons_zero, List.getElem?_cons_succ] at kA_0 kA_1 kA_2; have lt_kA := kA.lt; have kB_0 := kB.cell 0; have kB_f0 := kB.frozen 0; have kB_1 := kB.cell 1; have kB_f1 := kB.frozen 1; have kB_2 := kB.cell 2; have kB_f2 := kB.frozen 2; simp only [List.set_cons_zero, List.set_cons_succ, List.getElem?_cons_zero, List.getElem?_cons_succ] at kB_0 kB_1 kB_2; have lt_kB := kB.lt
      go_wp2_with (first | (refine wpList_store_row rfl 24 _ _ rfl _ (bsC A l.length c a (min (s + 1) 1099511627776)).toArray rfl rfl _ _ kB (by kernel_rfl) (by kernel_rfl) (by kernel_rfl) ?_))
      have r6 := kB.srow (bsC A l.length c a (min (s + 1) 1099511627776))
      have hbr := srow_below hb (Nat.le_succ w.heap.size) (bsC A l.length c a (min (s + 1) 1099511627776)).toArray
      exact bodyPost_ret (v := .tuple #[bsV A l.length c a (min (s + 1) 1099511627776), .int .i64 0]) (results_row_val rfl _ _ _ _ _ _ _ rfl rfl r6 Try.underlying24 rfl (by kernel_rfl)) rfl ⟨_, by rw [hR.out], by rw [hR.out]; exact ⟨A, c, rfl, hc, (ha.below hbr).more hbr.size⟩, hbr⟩
    · have hq : q < 0 := by have := hpm.out; rw [decide_eq_false hin] at this; simpa using this
      replace hR := hide (hR.out.trans (if_neg hin))
      clear hin hpm
      have h64 := hok2.out.1
      clear hok2
      by_cases hn : l.length = 64
      · have e0 : (64 : Int) ≤ (l.length : Int) := by omega
        replace hR := hide (hR.out.trans (if_pos hn))
        clear hn h64
        go_wp2_with (first | (refine wpList_store_row rfl 24 _ _ rfl _ (bsC A l.length c a s).toArray rfl rfl _ _ k6 (by kernel_rfl) (by kernel_rfl) (by kernel_rfl) ?_))
        have r6 := k6.srow (bsC A l.length c a s)
        have hbr := srow_below hb (Nat.le_succ w.heap.size) (bsC A l.length c a s).toArray
        exact bodyPost_ret (v := .tuple #[bsV A l.length c a s, .int .i64 7]) (results_row_val rfl _ _ _ _ _ _ _ rfl rfl r6 Try.underlying24 rfl (by kernel_rfl)) rfl ⟨_, by rw [hR.out], by rw [hR.out]; exact ⟨A, c, rfl, hc, (ha.below hbr).more hbr.size⟩, hbr⟩
      · have e0 : (l.length : Int) < 64 := by omega
        replace hR := hide (hR.out.trans (if_neg hn))
        clear hn
        obtain ⟨iT, hi, hz0, hz1, hz2⟩ := info_parts rb_info
        have hra := (ha.below hb).more hb.size
        go_upto_region 12 with fail
        refine wp_region_mt 6 [(3, OwnAtR w5.heap.size 26 2 l.length (pbs l)), (5, RowAt 1 (pbC ⟨y, z⟩))] (by kernel_rfl) (by kernel_rfl) (by kernel_rfl) (by kernel_rfl) (sts_cons (sts_ownR _ _ _ _ _) (sts_cons (sts_row _ _) sts_nil)) (fun kq => ?_); (try dsimp only [List.append, List.take])
        (repeat (refine wpM_via (by kernel_rfl) ?_; go_big_quiet_step (fail); refine wpQuiet_nil ?_))
        (refine wpM_spec _ (OwnAtR w5.heap.size 26 2 l.length (pbs l)) (by kernel_rfl) (by kernel_rfl) rfl (later_some _) ?_ ?_; (focus (intro x hx hk; obtain ⟨px, rfl⟩ := hx; exact mUpon_appnil (.tmp 43) (.tmp 45) 22 rfl 26 iT _ 2 32 Try.underlying22 hi hz0 hz1 hz2 rfl (by omega) w5.heap.size (below_regrown w5 _ _).size rfl A l.length c (pbs l) w5.heap.size rfl (by rw [pbs_length]; omega) (hra.below (below_regrown w5 _ _)) (pbs_one _) (by unfold maxLen; omega) (by omega))); intro v hv K hK; obtain ⟨A7, cap7, rfl⟩ := hv; go_big_quiet_op; refine hK _ ?_; clear hK K)
        (repeat (refine wpM_via (by kernel_rfl) ?_; go_big_quiet_step (fail); refine wpQuiet_nil ?_))
        (refine wpM_spec _ (RowAt 1 (pbC ⟨y, z⟩)) (by kernel_rfl) (by kernel_rfl) rfl (later_some _) ?_ ?_; (focus (intro x hx hk; obtain ⟨px, rfl⟩ := hx; go_simp; (first | with_reducible refine mUpon_enter ?_ | with_reducible refine mUpon_value ?_); exact row_new (by simp [Go.Sort.grow]) rfl)); intro v hv K hK; obtain ⟨A8, c8, rfl⟩ := hv; go_big_quiet_op; refine hK _ ?_; clear hK K)
        refine wpM_nil ?_; intro wq hwq hfq; have hbq := below_of_class hwq; clear hwq kq; (try dsimp only [List.drop])
        have hrow := row_of hfq.1
        have own7 := own_ofR (base := w5.heap.size) hfq.2.1
        obtain ⟨ad2, rfl, hab, _⟩ := hrow (by simp)
        have hsq := hbq.size
        have hs5 : w.heap.size + 1 < w5.heap.size := lt_k6
        replace k3 := k3.step hbq; (try clear k3_0 k3_f0 k3_1 k3_f1 k3_2 k3_f2); have k3_0 := k3.cell 0; have k3_f0 := k3.frozen 0; have k3_1 := k3.cell 1; have k3_f1 := k3.frozen 1; have k3_2 := k3.cell 2; have k3_f2 := k3.frozen 2; simp only [List.set_cons_zero, List.set_cons_succ, List.getElem?_cons_zero, List.getElem?_cons_succ] at k3_0 k3_1 k3_2; (try clear lt_k3); have lt_k3 := k3.lt; replace k6 := k6.step hbq; (try clear k6_0 k6_f0 k6_1 k6_f1 k6_2 k6_f2); have k6_0 := k6.cell 0; have k6_f0 := k6.frozen 0; have k6_1 := k6.cell 1; have k6_f1 := k6.frozen 1; have k6_2 := k6.cell 2; have k6_f2 := k6.frozen 2; simp only [List.set_cons_zero, List.set_cons_succ, List.getElem?_cons_zero, List.getElem?_cons_succ] at k6_0 k6_1 k6_2; (try clear lt_k6); have lt_k6 := k6.lt
        replace hb := hb.step hbq
        clear hfq hbq
        refine wpList_app2 rfl (.tmp 46) (.tmp 48) 22 rfl w5.heap.size 26 iT _ 2 32 Try.underlying22 hi hz0 hz1 hz2 rfl (by omega) A7 l.length cap7 (pbs l) rfl own7 ad2 1 c8 (pbC ⟨y, z⟩) rfl rfl (rd_hnews hrow) (by simp [Value.oneCell']) (by unfold maxLen; omega) (by omega) hsq (by omega) ?_
        intro g8 cap8 w8 own8 hb8 hgr8
        have k3' : Bk w8 w.heap.size 24 (bsC A l.length c a s) := k3.below hb8 (by omega)
        have k6' : Bk w8 (w.heap.size + 1) 24 (bsC none 0 0 0 0) := k6.below hb8 (by omega)
        replace hb : Below w.heap.size w w8 := hb.trans (hb8.mono (by omega))
        have hs8 := hb8.size
        (try clear k3_0 k3_f0 k3_1 k3_f1 k3_2 k3_f2 lt_k3) ; (try clear k6_0 k6_f0 k6_1 k6_f1 k6_2 k6_f2 lt_k6)
        clear k3 k6 hrow hab hb8 hgr8 own7
        obtain ⟨k3, _⟩ := And.intro k3' trivial
        obtain ⟨k6, _⟩ := And.intro k6' trivial
        clear k3' k6'
        have k3_0 := k3.cell 0; have k3_f0 := k3.frozen 0; have k3_1 := k3.cell 1; have k3_f1 := k3.frozen 1; have k3_2 := k3.cell 2; have k3_f2 := k3.frozen 2; simp only [List.set_cons_zero, List.set_cons_succ, List.getElem?_cons_zero, List.getElem?_cons_succ] at k3_0 k3_1 k3_2; have lt_k3 := k3.lt; have k6_0 := k6.cell 0; have k6_f0 := k6.frozen 0; have k6_1 := k6.cell 1; have k6_f1 := k6.frozen 1; have k6_2 := k6.cell 2; have k6_f2 := k6.frozen 2; simp only [List.set_cons_zero, List.set_cons_succ, List.getElem?_cons_zero, List.getElem?_cons_succ] at k6_0 k6_1 k6_2; have lt_k6 := k6.lt
        go_upto_region 13 with fail
        generalize hV : World.setCell w8 _ _ = w9
        replace hb : Below w.heap.size w w9 := by subst hV; exact hb.setCell (Nat.le_refl _) _
        have kA : Bk w9 w.heap.size 24 (bsC (some ⟨g8, 0, none⟩) (l.length + 1) cap8 a s) := by subst hV; exact k3.set_ 0 _
        have kB : Bk w9 (w.heap.size + 1) 24 (bsC none 0 0 0 0) := by subst hV; exact k6.far (by dsimp only; omega) _
        have own9 : w9.ownsRow (w.heap.size + 2) 26 2 (.slice (some ⟨g8, 0, none⟩) (l.length + 1) cap8) (l.length + 1) (pbs (l ++ [⟨y, z⟩])) := by
          subst hV
          rw [pbs_append, show pbs [(⟨y, z⟩ : Pb)] = pbC ⟨y, z⟩ by simp [pbs]]
          exact own_far (own_mono30 own8 (by omega)) (by dsimp only; omega) _
        have hcap := own_cap30 own9
        have hble := own_blk own9
        have hrd := own_rd own9
        clear hV own8 own9
        (try clear k3_0 k3_f0 k3_1 k3_f1 k3_2 k3_f2 lt_k3) ; (try clear k6_0 k6_f0 k6_1 k6_f1 k6_2 k6_f2 lt_k6)
        clear k3 k6
        have kA_0 := kA.cell 0; have kA_f0 := kA.frozen 0; have kA_1 := kA.cell 1; have kA_f1 := kA.frozen 1; have kA_2 := kA.cell 2; have kA_f2 := kA.frozen 2; simp only [List.set_cons_zero, List.set_cons_succ, List.getElem?_cons_zero, List.getElem?_cons_succ] at kA_0 kA_1 kA_2; have lt_kA := kA.lt; have kB_0 := kB.cell 0; have kB_f0 := kB.frozen 0; have kB_1 := kB.cell 1; have kB_f1 := kB.frozen 1; have kB_2 := kB.cell 2; have kB_f2 := kB.frozen 2; simp only [List.set_cons_zero, List.set_cons_succ, List.getElem?_cons_zero, List.getElem?_cons_succ] at kB_0 kB_1 kB_2; have lt_kB := kB.lt
        go_wp2_with (first | (refine wpList_store_row rfl 24 _ _ rfl _ (bsC (some ⟨g8, 0, none⟩) (l.length + 1) cap8 a s).toArray rfl rfl _ _ kB (by kernel_rfl) (by kernel_rfl) (by kernel_rfl) ?_))
        have r6 := kB.srow (bsC (some ⟨g8, 0, none⟩) (l.length + 1) cap8 a s)
        have hbr := srow_below hb (Nat.le_succ w.heap.size) (bsC (some ⟨g8, 0, none⟩) (l.length + 1) cap8 a s).toArray
        have hrd2 := hrd.rowFar (g := w.heap.size + 1) (fun ad e => by have := (hble ad e).1; omega) (bsC (some ⟨g8, 0, none⟩) (l.length + 1) cap8 a s).toArray
        exact bodyPost_ret (v := .tuple #[bsV (some ⟨g8, 0, none⟩) (l.length + 1) cap8 a s, .int .i64 0]) (results_row_val rfl _ _ _ _ _ _ _ rfl rfl r6 Try.underlying24 rfl (by kernel_rfl)) rfl ⟨_, by rw [hR.out], by rw [hR.out]; exact ⟨some ⟨g8, 0, none⟩, cap8, by simp, by simpa using hcap.1, hrd2⟩, hbr⟩
end Go.Proofs.Ytfgfkiifekeeaaa
