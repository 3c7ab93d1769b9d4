/- The walk of ConfigReads. -/
import Derived.Test.YtfbllioegeadfaaDoorRc5
import Derived.Test.YtfbllioegeadfaaDoorAw32
namespace Go.Proofs.YtfbllioegeadfaaDoor
open Go.RowKit Go.Sort
set_option linter.unusedSimpArgs false
set_option linter.unusedVariables false

theorem cSame_self (c : CC) : cSame c c = true := (cSame_iff c c).2 rfl
set_option maxRecDepth 100000 in
set_option maxHeartbeats 16000000 in
theorem ConfigReads_walk (s : ByteArray) (w : World) (hg : GW w) : Calls Tryd.prog 3 #[.string s] w fun e w' => e = .returned (.bool true) ∧ Below w.heap.size w w' := by
  by_cases h3 : 300 < s.size
  · have h3i : (300 : Int) < (s.size : Int) := by omega
    go_enter Tryd.func3, Tryd.ntmps3
    go_wp2_with fail
    refine (awake_any _ hg).mono ?_; rintro e w1 ⟨rfl, hx⟩
    go_wp2
    go_ret
    exact ⟨rfl, hx⟩
  have h3i : ¬ (300 : Int) < (s.size : Int) := by omega
  have h3i' : (s.size : Int) ≤ 300 := by omega
  have hp := fun W hW => config_Parse_any s (by omega) W hW
  have hq := fun W => r32_Parse_any s (by omega) W
  generalize cParse s.data.toList = R at *
  obtain ⟨c, v⟩ := R
  dsimp only at hp hq
  have hE := fun w => eqs_ref c c w
  rw [cSame_self] at hE
  go_enter Tryd.func3, Tryd.ntmps3
  go_wp2_with fail
  refine (hp _ hg).mono ?_; rintro e w1 ⟨rfl, hx⟩
  replace hg := hg.step hx
  have hb := hx
  clear hx hp
  go_upto_region 4 with (first | (refine wpList_store_row rfl 34 _ _ rfl _ (c.C).toArray rfl rfl _ _ (Bk.new _ _ _) (by kernel_rfl) (by kernel_rfl) (by kernel_rfl) ?_) | fail)
  generalize hV : World.setRow _ _ _ = w2
  have hx : Below w1.heap.size w1 w2 := by subst hV; exact setRow_below ((Below.refl _ _).alloc1 _) (Nat.le_refl _) _
  have k1 : Bk w2 w1.heap.size 34 c.C := by subst hV; exact (Bk.new w1 _ _).row _
  clear hV
  replace hg := hg.step hx
  replace hb := hb.step hx
  clear hx
  go_wp2_with fail
  refine (hq _).mono ?_; rintro e w3 ⟨rfl, hx⟩
  replace hg := hg.step hx
  replace hb := hb.step hx
  replace k1 := k1.step hx
  clear hx hq
  go_upto_region 5 with (first | (refine wpList_store_row rfl 44 _ _ rfl _ (c.C).toArray rfl rfl _ _ (Bk.new _ _ _) (by kernel_rfl) (by kernel_rfl) (by kernel_rfl) ?_) | fail)
  generalize hV : World.setRow _ _ _ = w4
  have hx : Below w3.heap.size w3 w4 := by subst hV; exact setRow_below ((Below.refl _ _).alloc1 _) (Nat.le_refl _) _
  have k2 : Bk w4 w3.heap.size 44 c.C := by subst hV; exact (Bk.new w3 _ _).row _
  clear hV
  replace hg := hg.step hx
  replace hb := hb.step hx
  replace k1 := k1.step hx
  clear hx
  have lt1 := k1.lt
  have lt2 := k2.lt
  refine wp_region_m [(1, only c.V), (10, only (.bool true))] (by kernel_rfl) (by kernel_rfl) (by kernel_rfl) (by kernel_rfl) (sts_cons (sts_only _) (sts_cons (sts_only _) sts_nil)) (fun kq => ?_); (try dsimp only [List.append])
  (refine wpM_load _ 34 _ rfl rfl _ 0 rfl (c.C) (fun x hx => by obtain ⟨px, rfl⟩ := hx; exact (k1.step (below_regrown _ _ _)).range 0 _ rfl) _ Tryd.underlying34 rfl (by kernel_rfl) (later_some _) (by kernel_rfl) (by kernel_rfl) ?_; intro K hK; go_big_quiet_op; refine hK _ ?_; clear hK K)
  (refine wpM_only _ (c.V) (by kernel_rfl) (by kernel_rfl) rfl (later_some _) ?_ ?_; (focus (intro x hx hk; obtain ⟨px, rfl⟩ := hx; go_simp; (first | with_reducible refine mUpon_enter ?_ | with_reducible refine mUpon_value ?_); go_at_call 8; exact (back_any c _).mo)); intro K hK; go_big_quiet_op; refine hK _ ?_; clear hK K)
  (refine wpM_load _ 44 _ rfl rfl _ 0 rfl (c.C) (fun x hx => by obtain ⟨px, rfl⟩ := hx; exact (k2.step (below_regrown _ _ _)).range 0 _ rfl) _ Tryd.underlying44 rfl (by kernel_rfl) (later_some _) (by kernel_rfl) (by kernel_rfl) ?_; intro K hK; go_big_quiet_op; refine hK _ ?_; clear hK K)
  (repeat (refine wpM_via (by kernel_rfl) ?_; go_big_quiet_step (fail); refine wpQuiet_nil ?_))
  (refine wpM_only _ (.bool true) (by kernel_rfl) (by kernel_rfl) rfl (later_some _) ?_ ?_; (focus (intro x hx hk; obtain ⟨px, rfl⟩ := hx; go_simp; (first | with_reducible refine mUpon_enter ?_ | with_reducible refine mUpon_value ?_); go_at_call 5; exact (awake_any _ (hg.step (below_regrown _ _ _))).mo)); intro K hK; go_big_quiet_op; refine hK _ ?_; clear hK K)
  (repeat (refine wpM_via (by kernel_rfl) ?_; go_big_quiet_step (fail); refine wpQuiet_nil ?_))
  refine wpM_nil ?_; intro wq hwq hfq; have hbq := below_of_class hwq; clear hwq kq; (try dsimp only [List.drop])
  go_wp2
  go_ret
  exact ⟨rfl, hb.step hbq⟩
end Go.Proofs.YtfbllioegeadfaaDoor
