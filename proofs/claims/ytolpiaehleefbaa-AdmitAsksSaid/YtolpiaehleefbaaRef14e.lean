/- callboylaw14: Own, Back. -/
import Derived.Test.YtolpiaehleefbaaRef14
namespace Go.Proofs.Ytolpiaehleefbaa
open Go.RowKit Go.Sort
set_option linter.unusedSimpArgs false
set_option linter.unusedVariables false

set_option maxRecDepth 100000 in
set_option maxHeartbeats 8000000 in
theorem law14_Own_own (A : Option Addr) (c : Nat) (l : List En) (w : World) (hl : l.length ≤ 1000) (ha : Rd w w.heap.size A (enR l)) :
    Calls Try.prog 30 #[.slice A l.length c] w fun e w' => ∃ B d, e = .returned (.slice B l.length d) ∧ w'.ownsRow w.heap.size 146 3 (.slice B l.length d) l.length (enR l) ∧ Below w.heap.size w w' := by
  obtain ⟨iT, hi, hz0, hz1, hz2⟩ := info_parts en_info
  go_enter Try.func30, Try.ntmps30
  go_wp2_with fail
  go_loopw [3, 4] (fun s i wr => ∃ k : Nat, k ≤ l.length ∧ i = .int .i64 k ∧ (∃ W cW, s = .slice W k cW ∧ wr.ownsRow w.heap.size 146 3 (.slice W k cW) k (enR (l.take k))) ∧ w.heap.size ≤ wr.heap.size ∧ Below w.heap.size w wr) (fun _ i _ => l.length - (intOf i).toNat)
  case atStart => exact ⟨0, Nat.zero_le _, rfl, ⟨none, 0, rfl, ⟨by simp [enR], .inl ⟨rfl, rfl⟩⟩⟩, Nat.le_refl _, by (repeat (first | with_reducible exact Below.refl _ _ | with_reducible assumption | with_reducible refine Below.drew ?_ | with_reducible refine Below.drewN ?_ _ | with_reducible refine Below.alloc1 ?_ _ | with_reducible refine Below.setCell1 ?_ (by first | omega | (simp; done) | (simp; omega)) _ | with_reducible refine Below.step ?_ (by with_reducible assumption)))⟩
  case round =>
    obtain ⟨k, hk, rfl, ⟨W, cW, rfl, own⟩, hbw, hb⟩ := hrel
    by_cases hlt : k < l.length
    · obtain ⟨ad, rfl, hadb, c1, c2, c3⟩ := (ha.below hb).en hlt
      have hsn : enR (l.take (k + 1)) = enR (l.take k) ++ enC l[k] := by rw [take_snocL l k hlt, enR_append]; simp [enR]
      have HSN := hide hsn
      clear hsn
      generalize l[k] = x at *
      have cq1 : ∀ d os, (grow (redrawn wr d) os).cell? (ad.add (k * 3)) = some (.int .i64 x.s) := fun d os => ((below_regrown wr d os).cell (by rw [add_block]; omega)).trans c1
      have cq2 : ∀ d os, (grow (redrawn wr d) os).cell? ⟨(ad.add (k * 3)).block, (ad.add (k * 3)).off + 1, none⟩ = some (.int .i64 x.t) := fun d os => ((below_regrown wr d os).cell (by dsimp only; rw [add_block]; omega)).trans c2
      have cq3 : ∀ d os, (grow (redrawn wr d) os).cell? ⟨(ad.add (k * 3)).block, (ad.add (k * 3)).off + 2, none⟩ = some (.int .i64 x.a) := fun d os => ((below_regrown wr d os).cell (by dsimp only; rw [add_block]; omega)).trans c3
      go_wp2_with fail
      refine wp_region_mt 13 [(12, RowAt 1 (enC x))] (by kernel_rfl) (by kernel_rfl) (by kernel_rfl) (by kernel_rfl) (sts_cons (sts_row _ _) sts_nil) (fun kq => ?_); (try dsimp only [List.append, List.take])
      (repeat (refine wpM_via (by kernel_rfl) ?_; go_big_quiet_step (fail); refine wpQuiet_nil ?_))
      (refine wpM_spec _ (RowAt 1 (enC x)) (by kernel_rfl) (by kernel_rfl) rfl (later_some _) ?_ ?_; (focus (intro x hx hk; obtain ⟨px, rfl⟩ := hx; go_simp; (first | with_reducible refine mUpon_enter ?_ | with_reducible refine mUpon_value ?_); exact row_new (by simp [Go.Sort.grow]) rfl)); intro v hv K hK; obtain ⟨A2, c2', rfl⟩ := hv; go_big_quiet_op; refine hK _ ?_; clear hK K)
      refine wpM_nil ?_; intro wq hwq hfq; have hbq := below_of_class hwq; clear hwq kq; (try dsimp only [List.drop])
      have hrow := row_of hfq.1
      obtain ⟨ad2, rfl, hab, _⟩ := hrow (by simp)
      have hsq := hbq.size
      have own2 := own_below own hbq (Nat.le_refl _)
      replace hb : Below w.heap.size w wq := hb.step hbq
      clear hfq hbq own cq1 cq2 cq3 c1 c2 c3
      refine wpList_app2 rfl (.tmp 11) (.tmp 23) 48 rfl w.heap.size 146 iT _ 3 24 Try.underlying48 hi hz0 hz1 hz2 rfl (by omega) W k cW (enR (l.take k)) rfl own2 ad2 1 c2' (enC x) rfl rfl (rd_hnews hrow) (by simp [Value.oneCell']) (by unfold maxLen; omega) (by omega) (by omega) (by omega) ?_
      intro g cap w7 own7 hb7 hgr7
      have hs7 := hb7.size
      replace hb : Below w.heap.size w w7 := hb.trans hb7
      rw [← HSN.out] at own7
      clear hi hz0 hz1 hz2 iT own2 hrow hab hb7 hgr7
      go_wp2
      go_roundw
      case rel => exact ⟨k + 1, by omega, by go_num, ⟨_, cap, rfl, own7⟩, by omega, hb⟩
      case measure => simp [intOf]; omega
    · have hkl : k = l.length := by omega
      subst hkl
      rw [List.take_length] at own
      go_wp2
      go_ret
      exact ⟨W, cW, rfl, own, hb⟩
theorem law14_Own_any (A : Option Addr) (c : Nat) (l : List En) (w : World) (hl : l.length ≤ 1000) (ha : Rd w w.heap.size A (enR l)) :
    Calls Try.prog 30 #[.slice A l.length c] w fun e w' => ∃ B d, e = .returned (.slice B l.length d) ∧ Rd w' w'.heap.size B (enR l) ∧ Below w.heap.size w w' :=
  (law14_Own_own A c l w hl ha).mono fun _ _ ⟨B, d, e, o, h⟩ => ⟨B, d, e, own_rd o, h⟩
set_option maxRecDepth 100000 in
set_option maxHeartbeats 8000000 in
theorem law14_Back_own (A : Option Addr) (c : Nat) (l : List En) (w : World) (hl : l.length ≤ 1000) (ha : Rd w w.heap.size A (enR l)) :
    Calls Try.prog 44 #[.slice A l.length c] w fun e w' => ∃ B d, e = .returned (.slice B l.length d) ∧ w'.ownsRow w.heap.size 144 3 (.slice B l.length d) l.length (enR l) ∧ Below w.heap.size w w' := by
  obtain ⟨iT, hi, hz0, hz1, hz2⟩ := info_parts ren_info
  go_enter Try.func44, Try.ntmps44
  go_wp2_with fail
  go_loopw [3, 4] (fun s i wr => ∃ k : Nat, k ≤ l.length ∧ i = .int .i64 k ∧ (∃ W cW, s = .slice W k cW ∧ wr.ownsRow w.heap.size 144 3 (.slice W k cW) k (enR (l.take k))) ∧ w.heap.size ≤ wr.heap.size ∧ Below w.heap.size w wr) (fun _ i _ => l.length - (intOf i).toNat)
  case atStart => exact ⟨0, Nat.zero_le _, rfl, ⟨none, 0, rfl, ⟨by simp [enR], .inl ⟨rfl, rfl⟩⟩⟩, Nat.le_refl _, by (repeat (first | with_reducible exact Below.refl _ _ | with_reducible assumption | with_reducible refine Below.drew ?_ | with_reducible refine Below.drewN ?_ _ | with_reducible refine Below.alloc1 ?_ _ | with_reducible refine Below.setCell1 ?_ (by first | omega | (simp; done) | (simp; omega)) _ | with_reducible refine Below.step ?_ (by with_reducible assumption)))⟩
  case round =>
    obtain ⟨k, hk, rfl, ⟨W, cW, rfl, own⟩, hbw, hb⟩ := hrel
    by_cases hlt : k < l.length
    · obtain ⟨ad, rfl, hadb, c1, c2, c3⟩ := (ha.below hb).en hlt
      have hsn : enR (l.take (k + 1)) = enR (l.take k) ++ enC l[k] := by rw [take_snocL l k hlt, enR_append]; simp [enR]
      have HSN := hide hsn
      clear hsn
      generalize l[k] = x at *
      have cq1 : ∀ d os, (grow (redrawn wr d) os).cell? (ad.add (k * 3)) = some (.int .i64 x.s) := fun d os => ((below_regrown wr d os).cell (by rw [add_block]; omega)).trans c1
      have cq2 : ∀ d os, (grow (redrawn wr d) os).cell? ⟨(ad.add (k * 3)).block, (ad.add (k * 3)).off + 1, none⟩ = some (.int .i64 x.t) := fun d os => ((below_regrown wr d os).cell (by dsimp only; rw [add_block]; omega)).trans c2
      have cq3 : ∀ d os, (grow (redrawn wr d) os).cell? ⟨(ad.add (k * 3)).block, (ad.add (k * 3)).off + 2, none⟩ = some (.int .i64 x.a) := fun d os => ((below_regrown wr d os).cell (by dsimp only; rw [add_block]; omega)).trans c3
      go_wp2_with fail
      refine wp_region_mt 13 [(12, RowAt 1 (enC x))] (by kernel_rfl) (by kernel_rfl) (by kernel_rfl) (by kernel_rfl) (sts_cons (sts_row _ _) sts_nil) (fun kq => ?_); (try dsimp only [List.append, List.take])
      (repeat (refine wpM_via (by kernel_rfl) ?_; go_big_quiet_step (fail); refine wpQuiet_nil ?_))
      (refine wpM_spec _ (RowAt 1 (enC x)) (by kernel_rfl) (by kernel_rfl) rfl (later_some _) ?_ ?_; (focus (intro x hx hk; obtain ⟨px, rfl⟩ := hx; go_simp; (first | with_reducible refine mUpon_enter ?_ | with_reducible refine mUpon_value ?_); exact row_new (by simp [Go.Sort.grow]) rfl)); intro v hv K hK; obtain ⟨A2, c2', rfl⟩ := hv; go_big_quiet_op; refine hK _ ?_; clear hK K)
      refine wpM_nil ?_; intro wq hwq hfq; have hbq := below_of_class hwq; clear hwq kq; (try dsimp only [List.drop])
      have hrow := row_of hfq.1
      obtain ⟨ad2, rfl, hab, _⟩ := hrow (by simp)
      have hsq := hbq.size
      have own2 := own_below own hbq (Nat.le_refl _)
      replace hb : Below w.heap.size w wq := hb.step hbq
      clear hfq hbq own cq1 cq2 cq3 c1 c2 c3
      refine wpList_app2 rfl (.tmp 11) (.tmp 23) 34 rfl w.heap.size 144 iT _ 3 24 Try.underlying34 hi hz0 hz1 hz2 rfl (by omega) W k cW (enR (l.take k)) rfl own2 ad2 1 c2' (enC x) rfl rfl (rd_hnews hrow) (by simp [Value.oneCell']) (by unfold maxLen; omega) (by omega) (by omega) (by omega) ?_
      intro g cap w7 own7 hb7 hgr7
      have hs7 := hb7.size
      replace hb : Below w.heap.size w w7 := hb.trans hb7
      rw [← HSN.out] at own7
      clear hi hz0 hz1 hz2 iT own2 hrow hab hb7 hgr7
      go_wp2
      go_roundw
      case rel => exact ⟨k + 1, by omega, by go_num, ⟨_, cap, rfl, own7⟩, by omega, hb⟩
      case measure => simp [intOf]; omega
    · have hkl : k = l.length := by omega
      subst hkl
      rw [List.take_length] at own
      go_wp2
      go_ret
      exact ⟨W, cW, rfl, own, hb⟩
theorem law14_Back_any (A : Option Addr) (c : Nat) (l : List En) (w : World) (hl : l.length ≤ 1000) (ha : Rd w w.heap.size A (enR l)) :
    Calls Try.prog 44 #[.slice A l.length c] w fun e w' => ∃ B d, e = .returned (.slice B l.length d) ∧ Rd w' w'.heap.size B (enR l) ∧ Below w.heap.size w w' :=
  (law14_Back_own A c l w hl ha).mono fun _ _ ⟨B, d, e, o, h⟩ => ⟨B, d, e, own_rd o, h⟩
end Go.Proofs.Ytolpiaehleefbaa
