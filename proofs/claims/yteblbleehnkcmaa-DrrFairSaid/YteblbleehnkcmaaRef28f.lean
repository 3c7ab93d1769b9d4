/- callboylaw28: own, Back. -/
import Derived.Test.YteblbleehnkcmaaRef28e
namespace Go.Proofs.Yteblbleehnkcmaa
open Go.RowKit Go.Sort
set_option linter.unusedSimpArgs false
set_option linter.unusedVariables false

set_option maxRecDepth 100000 in
set_option maxHeartbeats 8000000 in
theorem law_own_any (A : Option Addr) (c : Nat) (l : List Fl) (at_ : Int) (mid : Bool) (w : World) (hl : l.length ≤ 1000) (ha : Rd w w.heap.size A (flR l)) :
    Calls Try.prog 9 #[dsV A l.length c at_ mid] w fun e w' => ∃ B d, e = .returned (dsV B l.length d at_ mid) ∧ l.length ≤ d ∧ Rd w' w'.heap.size B (flR l) ∧ Below w.heap.size w w' := by
  obtain ⟨iT, hi, hz0, hz1, hz2⟩ := info_parts fl_info
  go_enter Try.func9, Try.ntmps9
  go_wp2_with fail
  generalize hV : World.alloc (World.alloc (World.alloc w _) _) _ = w1
  have hb1 : Below w.heap.size w w1 := by subst hV; (repeat (first | with_reducible exact Below.refl _ _ | with_reducible assumption | with_reducible refine Below.drew ?_ | with_reducible refine Below.drewN ?_ _ | with_reducible refine Below.alloc1 ?_ _ | with_reducible refine Below.setCell1 ?_ (by first | omega | (simp; done) | (simp; omega)) _ | with_reducible refine Below.step ?_ (by with_reducible assumption)))
  have k0 : Bk w1 w.heap.size 24 (dsC A l.length c at_ mid) := by subst hV; (repeat (first | with_reducible exact Bk.new' _ _ _ _ (by simp; done) | with_reducible assumption | with_reducible refine Bk.alloc ?_ _ | with_reducible refine Bk.drew ?_ | with_reducible refine Bk.drewN ?_ _ | with_reducible refine Bk.step ?_ (by with_reducible assumption) | with_reducible refine Bk.far ?_ (by first | omega | (simp; done) | (simp; omega)) _))
  have k1 : Bk w1 (w.heap.size + 1) 31 (dsC none 0 0 0 false) := by subst hV; exact (((Bk.new' (w.alloc (.cells (dsC A l.length c at_ mid).toArray 24)) 31 (dsC none 0 0 0 false) (w.heap.size + 1) (by simp)).alloc _))
  have k2 : Bk w1 (w.heap.size + 1 + 1) 31 (dsC none 0 0 at_ mid) := by subst hV; exact Bk.new' _ _ _ _ (by simp)
  clear hV
  have hsz1 : w1.heap.size = w1.heap.size := rfl
  have l2 := k2.lt
  go_loopw [4] (fun i wr => ∃ k : Nat, k ≤ l.length ∧ i = .int .i64 k ∧ (∃ W cW, Bk wr (w.heap.size + 1 + 1) 31 (dsC W k cW at_ mid) ∧ wr.ownsRow w1.heap.size 70 3 (.slice W k cW) k (flR (l.take k))) ∧ Bk wr w.heap.size 24 (dsC A l.length c at_ mid) ∧ Bk wr (w.heap.size + 1) 31 (dsC none 0 0 0 false) ∧ w1.heap.size ≤ wr.heap.size ∧ Below w.heap.size w wr) (fun i _ => l.length - (intOf i).toNat)
  case atStart => exact ⟨0, Nat.zero_le _, rfl, ⟨none, 0, k2, ⟨by simp [flR], .inl ⟨rfl, rfl⟩⟩⟩, k0, k1, Nat.le_refl _, hb1⟩
  case round =>
    clear k0 k1 k2 hb1 hsz1
    generalize w1.heap.size = bW at *
    obtain ⟨k, hk, rfl, ⟨W, cW, k2, own⟩, k0, k1, hbw, hb⟩ := hrel
    have k0_0 := k0.cell 0; have k0_f0 := k0.frozen 0; have k0_1 := k0.cell 1; have k0_f1 := k0.frozen 1; have k0_2 := k0.cell 2; have k0_f2 := k0.frozen 2; simp only [List.set_cons_zero, List.set_cons_succ, List.getElem?_cons_zero, List.getElem?_cons_succ] at k0_0 k0_1 k0_2; have lt_k0 := k0.lt; have k1_0 := k1.cell 0; have k1_f0 := k1.frozen 0; have k1_1 := k1.cell 1; have k1_f1 := k1.frozen 1; have k1_2 := k1.cell 2; have k1_f2 := k1.frozen 2; simp only [List.set_cons_zero, List.set_cons_succ, List.getElem?_cons_zero, List.getElem?_cons_succ] at k1_0 k1_1 k1_2; have lt_k1 := k1.lt; have k2_0 := k2.cell 0; have k2_f0 := k2.frozen 0; have k2_1 := k2.cell 1; have k2_f1 := k2.frozen 1; have k2_2 := k2.cell 2; have k2_f2 := k2.frozen 2; simp only [List.set_cons_zero, List.set_cons_succ, List.getElem?_cons_zero, List.getElem?_cons_succ] at k2_0 k2_1 k2_2; have lt_k2 := k2.lt
    by_cases hlt : k < l.length
    · obtain ⟨ad, rfl, hadb, c1, c2, c3⟩ := (ha.below hb).fl hlt
      have hsn : flR (l.take (k + 1)) = flR (l.take k) ++ flC l[k] := by rw [take_snocL l k hlt, flR_append]; simp [flR]
      have HSN := hide hsn
      clear hsn
      generalize l[k] = x at *
      have cq1 : ∀ d os, (grow (redrawn wr d) os).cell? (ad.add (k * 3)) = some (.int .i64 x.id) := fun d os => ((below_regrown wr d os).cell (by rw [add_block]; omega)).trans c1
      have cq2 : ∀ d os, (grow (redrawn wr d) os).cell? ⟨(ad.add (k * 3)).block, (ad.add (k * 3)).off + 1, none⟩ = some (.int .i64 x.wt) := fun d os => ((below_regrown wr d os).cell (by dsimp only; rw [add_block]; omega)).trans c2
      have cq3 : ∀ d os, (grow (redrawn wr d) os).cell? ⟨(ad.add (k * 3)).block, (ad.add (k * 3)).off + 2, none⟩ = some (.int .i64 x.df) := fun d os => ((below_regrown wr d os).cell (by dsimp only; rw [add_block]; omega)).trans c3
      go_wp2_with fail
      refine wp_region_mt 8 [(7, RowAt 1 (flC x))] (by kernel_rfl) (by kernel_rfl) (by kernel_rfl) (by kernel_rfl) (sts_cons (sts_row _ _) sts_nil) (fun kq => ?_); (try dsimp only [List.append, List.take])
      (repeat (refine wpM_via (by kernel_rfl) ?_; go_big_quiet_step (fail); refine wpQuiet_nil ?_))
      (refine wpM_spec _ (RowAt 1 (flC x)) (by kernel_rfl) (by kernel_rfl) rfl (later_some _) ?_ ?_; (focus (intro x hx hk; obtain ⟨px, rfl⟩ := hx; go_simp; (first | with_reducible refine mUpon_enter ?_ | with_reducible refine mUpon_value ?_); exact row_new (by simp [Go.Sort.grow]) rfl)); intro v hv K hK; obtain ⟨A2, c2', rfl⟩ := hv; go_big_quiet_op; refine hK _ ?_; clear hK K)
      refine wpM_nil ?_; intro wq hwq hfq; have hbq := below_of_class hwq; clear hwq kq; (try dsimp only [List.drop])
      have hrow := row_of hfq.1
      obtain ⟨ad2, rfl, hab, _⟩ := hrow (by simp)
      have hsq := hbq.size
      have own2 := own_below own hbq (Nat.le_refl _)
      replace hb : Below w.heap.size w wq := hb.step hbq
      replace k0 := k0.step hbq; (try clear k0_0 k0_f0 k0_1 k0_f1 k0_2 k0_f2); have k0_0 := k0.cell 0; have k0_f0 := k0.frozen 0; have k0_1 := k0.cell 1; have k0_f1 := k0.frozen 1; have k0_2 := k0.cell 2; have k0_f2 := k0.frozen 2; simp only [List.set_cons_zero, List.set_cons_succ, List.getElem?_cons_zero, List.getElem?_cons_succ] at k0_0 k0_1 k0_2; (try clear lt_k0); have lt_k0 := k0.lt; replace k1 := k1.step hbq; (try clear k1_0 k1_f0 k1_1 k1_f1 k1_2 k1_f2); have k1_0 := k1.cell 0; have k1_f0 := k1.frozen 0; have k1_1 := k1.cell 1; have k1_f1 := k1.frozen 1; have k1_2 := k1.cell 2; have k1_f2 := k1.frozen 2; simp only [List.set_cons_zero, List.set_cons_succ, List.getElem?_cons_zero, List.getElem?_cons_succ] at k1_0 k1_1 k1_2; (try clear lt_k1); have lt_k1 := k1.lt; replace k2 := k2.step hbq; (try clear k2_0 k2_f0 k2_1 k2_f1 k2_2 k2_f2); have k2_0 := k2.cell 0; have k2_f0 := k2.frozen 0; have k2_1 := k2.cell 1; have k2_f1 := k2.frozen 1; have k2_2 := k2.cell 2; have k2_f2 := k2.frozen 2; simp only [List.set_cons_zero, List.set_cons_succ, List.getElem?_cons_zero, List.getElem?_cons_succ] at k2_0 k2_1 k2_2; (try clear lt_k2); have lt_k2 := k2.lt
      clear hfq hbq own cq1 cq2 cq3 c1 c2 c3
      refine wpList_app2 rfl (.tmp 18) (.tmp 24) 29 rfl bW 70 iT _ 3 24 Try.underlying29 hi hz0 hz1 hz2 rfl (by omega) W k cW (flR (l.take k)) rfl own2 ad2 1 c2' (flC x) rfl rfl (rd_hnews hrow) (by simp [Value.oneCell']) (by unfold maxLen; omega) (by omega) (by omega) (by omega) ?_
      intro g cap w7 own7 hb7 hgr7
      replace k0 := k0.below hb7 (by omega)
      replace k1 := k1.below hb7 (by omega)
      replace k2 := k2.below hb7 (by omega)
      (try clear k0_0 k0_f0 k0_1 k0_f1 k0_2 k0_f2 lt_k0) ; (try clear k1_0 k1_f0 k1_1 k1_f1 k1_2 k1_f2 lt_k1) ; (try clear k2_0 k2_f0 k2_1 k2_f1 k2_2 k2_f2 lt_k2)
      have hs7 := hb7.size
      replace hb : Below w.heap.size w w7 := hb.trans (hb7.mono (by omega))
      clear hi hz0 hz1 hz2 iT own2 hrow hab hb7 hgr7
      have k0_0 := k0.cell 0; have k0_f0 := k0.frozen 0; have k0_1 := k0.cell 1; have k0_f1 := k0.frozen 1; have k0_2 := k0.cell 2; have k0_f2 := k0.frozen 2; simp only [List.set_cons_zero, List.set_cons_succ, List.getElem?_cons_zero, List.getElem?_cons_succ] at k0_0 k0_1 k0_2; have lt_k0 := k0.lt; have k1_0 := k1.cell 0; have k1_f0 := k1.frozen 0; have k1_1 := k1.cell 1; have k1_f1 := k1.frozen 1; have k1_2 := k1.cell 2; have k1_f2 := k1.frozen 2; simp only [List.set_cons_zero, List.set_cons_succ, List.getElem?_cons_zero, List.getElem?_cons_succ] at k1_0 k1_1 k1_2; have lt_k1 := k1.lt; have k2_0 := k2.cell 0; have k2_f0 := k2.frozen 0; have k2_1 := k2.cell 1; have k2_f1 := k2.frozen 1; have k2_2 := k2.cell 2; have k2_f2 := k2.frozen 2; simp only [List.set_cons_zero, List.set_cons_succ, List.getElem?_cons_zero, List.getElem?_cons_succ] at k2_0 k2_1 k2_2; have lt_k2 := k2.lt
      go_wp2
      (try clear k0_0 k0_f0 k0_1 k0_f1 k0_2 k0_f2 lt_k0) ; (try clear k1_0 k1_f0 k1_1 k1_f1 k1_2 k1_f2 lt_k1) ; (try clear k2_0 k2_f0 k2_1 k2_f1 k2_2 k2_f2 lt_k2)
      generalize hV : World.setCell w7 _ _ = w8
      have hb8 : Below w.heap.size w w8 := by subst hV; exact hb.setCell (by dsimp only; omega) _
      have hs8 : bW ≤ w8.heap.size := by subst hV; simp [World.setCell]; omega
      have k28 : Bk w8 (w.heap.size + 1 + 1) 31 (dsC (some ⟨g, 0, none⟩) (k + 1) cap at_ mid) := by subst hV; exact k2.set_ 0 _
      have k08 : Bk w8 w.heap.size 24 (dsC (some ad) l.length c at_ mid) := by subst hV; exact k0.far (by dsimp only; omega) _
      have k18 : Bk w8 (w.heap.size + 1) 31 (dsC none 0 0 0 false) := by subst hV; exact k1.far (by dsimp only; omega) _
      have own8 : w8.ownsRow bW 70 3 (.slice (some ⟨g, 0, none⟩) (k + 1) cap) (k + 1) (flR (l.take k) ++ flC x) := by subst hV; exact own_far own7 (by dsimp only; omega) _
      clear hV
      go_roundw
      case rel => exact ⟨k + 1, by omega, by go_num, ⟨_, cap, k28, by rw [HSN.out]; exact own8⟩, k08, k18, hs8, hb8⟩
      case measure => simp [intOf]; omega
    · have hkl : k = l.length := by omega
      subst hkl
      rw [List.take_length] at own
      go_wp2
      (try clear k0_0 k0_f0 k0_1 k0_f1 k0_2 k0_f2 lt_k0) ; (try clear k1_0 k1_f0 k1_1 k1_f1 k1_2 k1_f2 lt_k1) ; (try clear k2_0 k2_f0 k2_1 k2_f1 k2_2 k2_f2 lt_k2)
      generalize hV : World.setCell (World.setCell (World.setCell wr _ _) _ _) _ _ = w4
      have lr := own.lt
      have hb4 : Below w.heap.size w w4 := by subst hV; exact ((hb.setCell (by dsimp only; omega) _).setCell (by dsimp only; omega) _).setCell (by dsimp only; omega) _
      have k14 : Bk w4 (w.heap.size + 1) 31 (dsC W l.length cW at_ mid) := by subst hV; exact ((k1.set_ 0 _).set_ 1 _).set_ 2 _
      have own4 : w4.ownsRow bW 70 3 (.slice W l.length cW) l.length (flR l) := by subst hV; refine own_far (own_far (own_far own ?_ _) ?_ _) ?_ _ <;> (dsimp only; omega)
      clear hV
      have k14_0 := k14.cell 0; have k14_f0 := k14.frozen 0; have k14_1 := k14.cell 1; have k14_f1 := k14.frozen 1; have k14_2 := k14.cell 2; have k14_f2 := k14.frozen 2; simp only [List.set_cons_zero, List.set_cons_succ, List.getElem?_cons_zero, List.getElem?_cons_succ] at k14_0 k14_1 k14_2; have lt_k14 := k14.lt
      have hcap : l.length ≤ cW := by
        rcases own4.2 with ⟨hv, hn⟩ | ⟨g', cap', cur, hv, _, _, hle, _⟩
        · omega
        · cases hv; exact hle
      exact bodyPost_ret (v := dsV W l.length cW at_ mid) (by simp only [results, Try.results9]; go_simp) rfl ⟨W, cW, rfl, hcap, own_rd own4, hb4⟩
set_option maxRecDepth 100000 in
set_option maxHeartbeats 8000000 in
theorem law_Back_any (A : Option Addr) (c : Nat) (l : List Fl) (at_ : Int) (mid : Bool) (w : World) (hl : l.length ≤ 1000) (ha : Rd w w.heap.size A (flR l)) :
    Calls Try.prog 14 #[dsV A l.length c at_ mid] w fun e w' => ∃ B d, e = .returned (dsV B l.length d at_ mid) ∧ l.length ≤ d ∧ Rd w' w'.heap.size B (flR l) ∧ Below w.heap.size w w' := by
  obtain ⟨iT, hi, hz0, hz1, hz2⟩ := info_parts rfl_info
  go_enter Try.func14, Try.ntmps14
  go_wp2_with fail
  generalize hV : World.alloc (World.alloc (World.alloc w _) _) _ = w1
  have hb1 : Below w.heap.size w w1 := by subst hV; (repeat (first | with_reducible exact Below.refl _ _ | with_reducible assumption | with_reducible refine Below.drew ?_ | with_reducible refine Below.drewN ?_ _ | with_reducible refine Below.alloc1 ?_ _ | with_reducible refine Below.setCell1 ?_ (by first | omega | (simp; done) | (simp; omega)) _ | with_reducible refine Below.step ?_ (by with_reducible assumption)))
  have k0 : Bk w1 w.heap.size 31 (dsC A l.length c at_ mid) := by subst hV; (repeat (first | with_reducible exact Bk.new' _ _ _ _ (by simp; done) | with_reducible assumption | with_reducible refine Bk.alloc ?_ _ | with_reducible refine Bk.drew ?_ | with_reducible refine Bk.drewN ?_ _ | with_reducible refine Bk.step ?_ (by with_reducible assumption) | with_reducible refine Bk.far ?_ (by first | omega | (simp; done) | (simp; omega)) _))
  have k1 : Bk w1 (w.heap.size + 1) 24 (dsC none 0 0 0 false) := by subst hV; exact (((Bk.new' (w.alloc (.cells (dsC A l.length c at_ mid).toArray 31)) 24 (dsC none 0 0 0 false) (w.heap.size + 1) (by simp)).alloc _))
  have k2 : Bk w1 (w.heap.size + 1 + 1) 24 (dsC none 0 0 at_ mid) := by subst hV; exact Bk.new' _ _ _ _ (by simp)
  clear hV
  have hsz1 : w1.heap.size = w1.heap.size := rfl
  have l2 := k2.lt
  go_loopw [4] (fun i wr => ∃ k : Nat, k ≤ l.length ∧ i = .int .i64 k ∧ (∃ W cW, Bk wr (w.heap.size + 1 + 1) 24 (dsC W k cW at_ mid) ∧ wr.ownsRow w1.heap.size 73 3 (.slice W k cW) k (flR (l.take k))) ∧ Bk wr w.heap.size 31 (dsC A l.length c at_ mid) ∧ Bk wr (w.heap.size + 1) 24 (dsC none 0 0 0 false) ∧ w1.heap.size ≤ wr.heap.size ∧ Below w.heap.size w wr) (fun i _ => l.length - (intOf i).toNat)
  case atStart => exact ⟨0, Nat.zero_le _, rfl, ⟨none, 0, k2, ⟨by simp [flR], .inl ⟨rfl, rfl⟩⟩⟩, k0, k1, Nat.le_refl _, hb1⟩
  case round =>
    clear k0 k1 k2 hb1 hsz1
    generalize w1.heap.size = bW at *
    obtain ⟨k, hk, rfl, ⟨W, cW, k2, own⟩, k0, k1, hbw, hb⟩ := hrel
    have k0_0 := k0.cell 0; have k0_f0 := k0.frozen 0; have k0_1 := k0.cell 1; have k0_f1 := k0.frozen 1; have k0_2 := k0.cell 2; have k0_f2 := k0.frozen 2; simp only [List.set_cons_zero, List.set_cons_succ, List.getElem?_cons_zero, List.getElem?_cons_succ] at k0_0 k0_1 k0_2; have lt_k0 := k0.lt; have k1_0 := k1.cell 0; have k1_f0 := k1.frozen 0; have k1_1 := k1.cell 1; have k1_f1 := k1.frozen 1; have k1_2 := k1.cell 2; have k1_f2 := k1.frozen 2; simp only [List.set_cons_zero, List.set_cons_succ, List.getElem?_cons_zero, List.getElem?_cons_succ] at k1_0 k1_1 k1_2; have lt_k1 := k1.lt; have k2_0 := k2.cell 0; have k2_f0 := k2.frozen 0; have k2_1 := k2.cell 1; have k2_f1 := k2.frozen 1; have k2_2 := k2.cell 2; have k2_f2 := k2.frozen 2; simp only [List.set_cons_zero, List.set_cons_succ, List.getElem?_cons_zero, List.getElem?_cons_succ] at k2_0 k2_1 k2_2; have lt_k2 := k2.lt
    by_cases hlt : k < l.length
    · obtain ⟨ad, rfl, hadb, c1, c2, c3⟩ := (ha.below hb).fl hlt
      have hsn : flR (l.take (k + 1)) = flR (l.take k) ++ flC l[k] := by rw [take_snocL l k hlt, flR_append]; simp [flR]
      have HSN := hide hsn
      clear hsn
      generalize l[k] = x at *
      have cq1 : ∀ d os, (grow (redrawn wr d) os).cell? (ad.add (k * 3)) = some (.int .i64 x.id) := fun d os => ((below_regrown wr d os).cell (by rw [add_block]; omega)).trans c1
      have cq2 : ∀ d os, (grow (redrawn wr d) os).cell? ⟨(ad.add (k * 3)).block, (ad.add (k * 3)).off + 1, none⟩ = some (.int .i64 x.wt) := fun d os => ((below_regrown wr d os).cell (by dsimp only; rw [add_block]; omega)).trans c2
      have cq3 : ∀ d os, (grow (redrawn wr d) os).cell? ⟨(ad.add (k * 3)).block, (ad.add (k * 3)).off + 2, none⟩ = some (.int .i64 x.df) := fun d os => ((below_regrown wr d os).cell (by dsimp only; rw [add_block]; omega)).trans c3
      go_wp2_with fail
      refine wp_region_mt 8 [(7, RowAt 1 (flC x))] (by kernel_rfl) (by kernel_rfl) (by kernel_rfl) (by kernel_rfl) (sts_cons (sts_row _ _) sts_nil) (fun kq => ?_); (try dsimp only [List.append, List.take])
      (repeat (refine wpM_via (by kernel_rfl) ?_; go_big_quiet_step (fail); refine wpQuiet_nil ?_))
      (refine wpM_spec _ (RowAt 1 (flC x)) (by kernel_rfl) (by kernel_rfl) rfl (later_some _) ?_ ?_; (focus (intro x hx hk; obtain ⟨px, rfl⟩ := hx; go_simp; (first | with_reducible refine mUpon_enter ?_ | with_reducible refine mUpon_value ?_); exact row_new (by simp [Go.Sort.grow]) rfl)); intro v hv K hK; obtain ⟨A2, c2', rfl⟩ := hv; go_big_quiet_op; refine hK _ ?_; clear hK K)
      refine wpM_nil ?_; intro wq hwq hfq; have hbq := below_of_class hwq; clear hwq kq; (try dsimp only [List.drop])
      have hrow := row_of hfq.1
      obtain ⟨ad2, rfl, hab, _⟩ := hrow (by simp)
      have hsq := hbq.size
      have own2 := own_below own hbq (Nat.le_refl _)
      replace hb : Below w.heap.size w wq := hb.step hbq
      replace k0 := k0.step hbq; (try clear k0_0 k0_f0 k0_1 k0_f1 k0_2 k0_f2); have k0_0 := k0.cell 0; have k0_f0 := k0.frozen 0; have k0_1 := k0.cell 1; have k0_f1 := k0.frozen 1; have k0_2 := k0.cell 2; have k0_f2 := k0.frozen 2; simp only [List.set_cons_zero, List.set_cons_succ, List.getElem?_cons_zero, List.getElem?_cons_succ] at k0_0 k0_1 k0_2; (try clear lt_k0); have lt_k0 := k0.lt; replace k1 := k1.step hbq; (try clear k1_0 k1_f0 k1_1 k1_f1 k1_2 k1_f2); have k1_0 := k1.cell 0; have k1_f0 := k1.frozen 0; have k1_1 := k1.cell 1; have k1_f1 := k1.frozen 1; have k1_2 := k1.cell 2; have k1_f2 := k1.frozen 2; simp only [List.set_cons_zero, List.set_cons_succ, List.getElem?_cons_zero, List.getElem?_cons_succ] at k1_0 k1_1 k1_2; (try clear lt_k1); have lt_k1 := k1.lt; replace k2 := k2.step hbq; (try clear k2_0 k2_f0 k2_1 k2_f1 k2_2 k2_f2); have k2_0 := k2.cell 0; have k2_f0 := k2.frozen 0; have k2_1 := k2.cell 1; have k2_f1 := k2.frozen 1; have k2_2 := k2.cell 2; have k2_f2 := k2.frozen 2; simp only [List.set_cons_zero, List.set_cons_succ, List.getElem?_cons_zero, List.getElem?_cons_succ] at k2_0 k2_1 k2_2; (try clear lt_k2); have lt_k2 := k2.lt
      clear hfq hbq own cq1 cq2 cq3 c1 c2 c3
      refine wpList_app2 rfl (.tmp 18) (.tmp 24) 22 rfl bW 73 iT _ 3 24 Try.underlying22 hi hz0 hz1 hz2 rfl (by omega) W k cW (flR (l.take k)) rfl own2 ad2 1 c2' (flC x) rfl rfl (rd_hnews hrow) (by simp [Value.oneCell']) (by unfold maxLen; omega) (by omega) (by omega) (by omega) ?_
      intro g cap w7 own7 hb7 hgr7
      replace k0 := k0.below hb7 (by omega)
      replace k1 := k1.below hb7 (by omega)
      replace k2 := k2.below hb7 (by omega)
      (try clear k0_0 k0_f0 k0_1 k0_f1 k0_2 k0_f2 lt_k0) ; (try clear k1_0 k1_f0 k1_1 k1_f1 k1_2 k1_f2 lt_k1) ; (try clear k2_0 k2_f0 k2_1 k2_f1 k2_2 k2_f2 lt_k2)
      have hs7 := hb7.size
      replace hb : Below w.heap.size w w7 := hb.trans (hb7.mono (by omega))
      clear hi hz0 hz1 hz2 iT own2 hrow hab hb7 hgr7
      have k0_0 := k0.cell 0; have k0_f0 := k0.frozen 0; have k0_1 := k0.cell 1; have k0_f1 := k0.frozen 1; have k0_2 := k0.cell 2; have k0_f2 := k0.frozen 2; simp only [List.set_cons_zero, List.set_cons_succ, List.getElem?_cons_zero, List.getElem?_cons_succ] at k0_0 k0_1 k0_2; have lt_k0 := k0.lt; have k1_0 := k1.cell 0; have k1_f0 := k1.frozen 0; have k1_1 := k1.cell 1; have k1_f1 := k1.frozen 1; have k1_2 := k1.cell 2; have k1_f2 := k1.frozen 2; simp only [List.set_cons_zero, List.set_cons_succ, List.getElem?_cons_zero, List.getElem?_cons_succ] at k1_0 k1_1 k1_2; have lt_k1 := k1.lt; have k2_0 := k2.cell 0; have k2_f0 := k2.frozen 0; have k2_1 := k2.cell 1; have k2_f1 := k2.frozen 1; have k2_2 := k2.cell 2; have k2_f2 := k2.frozen 2; simp only [List.set_cons_zero, List.set_cons_succ, List.getElem?_cons_zero, List.getElem?_cons_succ] at k2_0 k2_1 k2_2; have lt_k2 := k2.lt
      go_wp2
      (try clear k0_0 k0_f0 k0_1 k0_f1 k0_2 k0_f2 lt_k0) ; (try clear k1_0 k1_f0 k1_1 k1_f1 k1_2 k1_f2 lt_k1) ; (try clear k2_0 k2_f0 k2_1 k2_f1 k2_2 k2_f2 lt_k2)
      generalize hV : World.setCell w7 _ _ = w8
      have hb8 : Below w.heap.size w w8 := by subst hV; exact hb.setCell (by dsimp only; omega) _
      have hs8 : bW ≤ w8.heap.size := by subst hV; simp [World.setCell]; omega
      have k28 : Bk w8 (w.heap.size + 1 + 1) 24 (dsC (some ⟨g, 0, none⟩) (k + 1) cap at_ mid) := by subst hV; exact k2.set_ 0 _
      have k08 : Bk w8 w.heap.size 31 (dsC (some ad) l.length c at_ mid) := by subst hV; exact k0.far (by dsimp only; omega) _
      have k18 : Bk w8 (w.heap.size + 1) 24 (dsC none 0 0 0 false) := by subst hV; exact k1.far (by dsimp only; omega) _
      have own8 : w8.ownsRow bW 73 3 (.slice (some ⟨g, 0, none⟩) (k + 1) cap) (k + 1) (flR (l.take k) ++ flC x) := by subst hV; exact own_far own7 (by dsimp only; omega) _
      clear hV
      go_roundw
      case rel => exact ⟨k + 1, by omega, by go_num, ⟨_, cap, k28, by rw [HSN.out]; exact own8⟩, k08, k18, hs8, hb8⟩
      case measure => simp [intOf]; omega
    · have hkl : k = l.length := by omega
      subst hkl
      rw [List.take_length] at own
      go_wp2
      (try clear k0_0 k0_f0 k0_1 k0_f1 k0_2 k0_f2 lt_k0) ; (try clear k1_0 k1_f0 k1_1 k1_f1 k1_2 k1_f2 lt_k1) ; (try clear k2_0 k2_f0 k2_1 k2_f1 k2_2 k2_f2 lt_k2)
      generalize hV : World.setCell (World.setCell (World.setCell wr _ _) _ _) _ _ = w4
      have lr := own.lt
      have hb4 : Below w.heap.size w w4 := by subst hV; exact ((hb.setCell (by dsimp only; omega) _).setCell (by dsimp only; omega) _).setCell (by dsimp only; omega) _
      have k14 : Bk w4 (w.heap.size + 1) 24 (dsC W l.length cW at_ mid) := by subst hV; exact ((k1.set_ 0 _).set_ 1 _).set_ 2 _
      have own4 : w4.ownsRow bW 73 3 (.slice W l.length cW) l.length (flR l) := by subst hV; refine own_far (own_far (own_far own ?_ _) ?_ _) ?_ _ <;> (dsimp only; omega)
      clear hV
      have k14_0 := k14.cell 0; have k14_f0 := k14.frozen 0; have k14_1 := k14.cell 1; have k14_f1 := k14.frozen 1; have k14_2 := k14.cell 2; have k14_f2 := k14.frozen 2; simp only [List.set_cons_zero, List.set_cons_succ, List.getElem?_cons_zero, List.getElem?_cons_succ] at k14_0 k14_1 k14_2; have lt_k14 := k14.lt
      have hcap : l.length ≤ cW := by
        rcases own4.2 with ⟨hv, hn⟩ | ⟨g', cap', cur, hv, _, _, hle, _⟩
        · omega
        · cases hv; exact hle
      exact bodyPost_ret (v := dsV W l.length cW at_ mid) (by simp only [results, Try.results14]; go_simp) rfl ⟨W, cW, rfl, hcap, own_rd own4, hb4⟩
end Go.Proofs.Yteblbleehnkcmaa
