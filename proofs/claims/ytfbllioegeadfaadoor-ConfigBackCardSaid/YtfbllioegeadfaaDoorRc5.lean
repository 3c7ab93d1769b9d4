/- The law of package config: back, Own; the reference's Parse. -/
import Derived.Test.YtfbllioegeadfaaDoorRc4
import Derived.Test.YtfbllioegeadfaaDoorCf7
namespace Go.Proofs.YtfbllioegeadfaaDoor
open Go.RowKit
set_option linter.unusedSimpArgs false
set_option linter.unusedVariables false

set_option maxRecDepth 100000 in
set_option maxHeartbeats 4000000 in
theorem back_any (c : CC) (w : World) : Calls Tryd.prog 8 #[c.V] w fun e w' => e = .returned c.V ∧ Below w.heap.size w w' := by
  go_enter Tryd.func8, Tryd.ntmps8
  go_upto_region 1 with fail
  generalize hV : World.alloc (World.alloc w _) _ = w1
  have hb1 : Below w.heap.size w w1 := by subst hV; (repeat (first | with_reducible exact Below.refl _ _ | with_reducible assumption | with_reducible refine Below.drew ?_ | with_reducible refine Below.drewN ?_ _ | with_reducible refine Below.alloc1 ?_ _ | with_reducible refine Below.setCell1 ?_ (by first | omega | (simp; done) | (simp; omega)) _ | with_reducible refine Below.step ?_ (by with_reducible assumption)))
  have k0 : Bk w1 w.heap.size 34 c.C := by subst hV; exact (Bk.new w _ _).alloc _
  have k2 : Bk w1 (w.heap.size + 1) 44 zCC.C := by subst hV; exact Bk.new' _ _ _ _ (by simp)
  clear hV
  have lt2 := k2.lt
  go_upto_region 2 with (first | (refine wpList_load_sub 32 _ rfl _ 0 rfl _ _ k0 (acC c.a.ab c.a.ar c.a.eb c.a.er c.a.up c.a.dn c.a.hold c.a.lo c.a.hi) rfl _ Tryd.underlying32 rfl (by kernel_rfl) (by kernel_rfl) ?_) | (refine wpList_store_row rfl 32 _ _ rfl _ (acC c.a.ab c.a.ar c.a.eb c.a.er c.a.up c.a.dn c.a.hold c.a.lo c.a.hi).toArray rfl rfl _ _ (Bk.new _ _ _) (by kernel_rfl) (by kernel_rfl) (by kernel_rfl) ?_) | fail)
  generalize hV : World.setRow _ _ _ = w2
  have hx : Below w1.heap.size w1 w2 := by subst hV; exact setRow_below ((Below.refl _ _).alloc1 _) (Nat.le_refl _) _
  have k1 : Bk w2 w1.heap.size 32 (acC c.a.ab c.a.ar c.a.eb c.a.er c.a.up c.a.dn c.a.hold c.a.lo c.a.hi) := by subst hV; exact (Bk.new w1 _ _).row _
  clear hV
  replace k0 := k0.step hx
  replace k2 := k2.step hx
  replace hb1 := hb1.step hx
  clear hx
  have q1 : w2.cell? ⟨w.heap.size, 19, none⟩ = some (.int .i64 c.ce) := k0.cell 19
  have q2 : w2.cell? ⟨w.heap.size, 20, none⟩ = some (.int .i64 c.qu) := k0.cell 20
  have q3 : w2.cell? ⟨w.heap.size, 21, none⟩ = some (.int .i64 c.tot) := k0.cell 21
  have q4 : w2.cell? ⟨w.heap.size, 22, none⟩ = some (.int .i64 c.ba) := k0.cell 22
  have q5 : w2.cell? ⟨w.heap.size, 23, none⟩ = some (.int .i64 c.cr) := k0.cell 23
  go_wp2_with (first | (refine wpList_load_sub 24 _ rfl _ 0 rfl _ _ k1 ([.int .i64 c.a.ab, .int .i64 c.a.ar]) rfl _ Tryd.underlying24 rfl (by kernel_rfl) (by kernel_rfl) ?_) | (refine wpList_load_sub 24 _ rfl _ 2 rfl _ _ k1 ([.int .i64 c.a.eb, .int .i64 c.a.er]) rfl _ Tryd.underlying24 rfl (by kernel_rfl) (by kernel_rfl) ?_) | (refine wpList_load_sub 27 _ rfl _ 4 rfl _ _ k1 ([.int .i64 (c.a.up 0), .int .i64 (c.a.up 1), .int .i64 (c.a.up 2), .int .i64 (c.a.dn 0), .int .i64 (c.a.dn 1), .int .i64 (c.a.dn 2), .int .i64 c.a.hold]) rfl _ Tryd.underlying27 rfl (by kernel_rfl) (by kernel_rfl) ?_) | (refine wpList_load_sub 30 _ rfl _ 11 rfl _ _ k1 ([.int .i64 (c.a.lo 0), .int .i64 (c.a.lo 1), .int .i64 (c.a.lo 2), .int .i64 (c.a.lo 3), .int .i64 (c.a.hi 0), .int .i64 (c.a.hi 1), .int .i64 (c.a.hi 2), .int .i64 (c.a.hi 3)]) rfl _ Tryd.underlying30 rfl (by kernel_rfl) (by kernel_rfl) ?_) | (refine wpList_store_row rfl 44 _ _ rfl _ (c.C).toArray rfl rfl _ _ k2 (by kernel_rfl) (by kernel_rfl) (by kernel_rfl) ?_))
  refine bodyPost_ret (v := c.V) ?_ rfl ⟨rfl, setRow_below hb1 (by omega) _⟩
  exact results_cell_row rfl _ _ (w.heap.size + 1) _ _ (0, 0) _ rfl (k2.row _) Tryd.underlying44 rfl (by kernel_rfl)
set_option maxRecDepth 100000 in
set_option maxHeartbeats 8000000 in
theorem own_any32 (c : CC) (w : World) : Calls Tryd.prog 9 #[c.V] w fun e w' => e = .returned c.V ∧ Below w.heap.size w w' := by
  go_enter Tryd.func9, Tryd.ntmps9
  go_upto_region 1 with fail
  generalize hV : World.alloc (World.alloc w _) _ = w1
  have hb1 : Below w.heap.size w w1 := by subst hV; (repeat (first | with_reducible exact Below.refl _ _ | with_reducible assumption | with_reducible refine Below.drew ?_ | with_reducible refine Below.drewN ?_ _ | with_reducible refine Below.alloc1 ?_ _ | with_reducible refine Below.setCell1 ?_ (by first | omega | (simp; done) | (simp; omega)) _ | with_reducible refine Below.step ?_ (by with_reducible assumption)))
  have k0 : Bk w1 w.heap.size 44 c.C := by subst hV; exact (Bk.new w _ _).alloc _
  have k2 : Bk w1 (w.heap.size + 1) 34 zCC.C := by subst hV; exact Bk.new' _ _ _ _ (by simp)
  clear hV
  have lt2 := k2.lt
  have lt0 := k0.lt
  have q1 : w1.cell? ⟨w.heap.size, 19, none⟩ = some (.int .i64 c.ce) := k0.cell 19
  have q2 : w1.cell? ⟨w.heap.size, 20, none⟩ = some (.int .i64 c.qu) := k0.cell 20
  have q3 : w1.cell? ⟨w.heap.size, 21, none⟩ = some (.int .i64 c.tot) := k0.cell 21
  have q4 : w1.cell? ⟨w.heap.size, 22, none⟩ = some (.int .i64 c.ba) := k0.cell 22
  have q5 : w1.cell? ⟨w.heap.size, 23, none⟩ = some (.int .i64 c.cr) := k0.cell 23
  refine wp_region_mt 14 [(2, only (.agg (acC c.a.ab c.a.ar c.a.eb c.a.er c.a.up c.a.dn c.a.hold c.a.lo c.a.hi).toArray))] (by kernel_rfl) (by kernel_rfl) (by kernel_rfl) (by kernel_rfl) (sts_cons (sts_only _) sts_nil) (fun kq => ?_); (try dsimp only [List.append, List.take])
  (refine wpM_via (by kernel_rfl) ?_; go_big_quiet_step (fail); refine wpQuiet_nil ?_)
  (refine wpM_load _ 42 _ rfl rfl _ 0 rfl (acC c.a.ab c.a.ar c.a.eb c.a.er c.a.up c.a.dn c.a.hold c.a.lo c.a.hi) (fun x hx => by obtain ⟨px, rfl⟩ := hx; exact (k0.step (below_regrown _ _ _)).range 0 _ rfl) _ Tryd.underlying42 rfl (by kernel_rfl) (later_some _) (by kernel_rfl) (by kernel_rfl) ?_; intro K hK; go_big_quiet_op; refine hK _ ?_; clear hK K)
  (refine wpM_only _ (.agg (acC c.a.ab c.a.ar c.a.eb c.a.er c.a.up c.a.dn c.a.hold c.a.lo c.a.hi).toArray) (by kernel_rfl) (by kernel_rfl) rfl (later_some _) ?_ ?_; (focus (intro x hx hk; obtain ⟨px, rfl⟩ := hx; go_simp; (first | with_reducible refine mUpon_enter ?_ | with_reducible refine mUpon_value ?_); go_at_call 20; exact (law18_Conf_any c.a _).mo)); intro K hK; go_big_quiet_op; refine hK _ ?_; clear hK K)
  (repeat (refine wpM_via (by kernel_rfl) ?_; go_big_quiet_step (fail); refine wpQuiet_nil ?_))
  refine wpM_nil ?_; intro wq hwq hfq; have hbq := below_of_class hwq; clear hwq kq; (try dsimp only [List.drop])
  have k3 := k2.step hbq
  replace hb1 : Below w.heap.size w wq := hb1.step hbq
  clear hfq hbq k0 k2 q1 q2 q3 q4 q5
  refine wpList_store_row rfl 34 _ _ rfl (w.heap.size + 1) c.C.toArray rfl rfl _ _ k3 (by kernel_rfl) (by kernel_rfl) (by kernel_rfl) ?_
  have r2 := k3.row c.C
  go_wp2
  refine bodyPost_ret (v := c.V) ?_ rfl ⟨rfl, setRow_below hb1 (by omega) _⟩
  exact results_cell_row rfl _ _ (w.heap.size + 1) _ _ (0, 0) _ rfl r2 Tryd.underlying34 rfl (by kernel_rfl)
theorem r32_of_any (l : List Int) (hl : l.length = 24) (g d : Nat) (w : World) (hd : 24 ≤ d) (hg : g < w.heap.size) (hc : ∀ j u, (ints l)[j]? = some u → w.cell? ⟨g, j, none⟩ = some u) :
    Calls Tryd.prog 18 #[.slice (some ⟨g, 0, none⟩) 24 d] w fun e w' => e = .returned (ofL l).V ∧ Below w.heap.size w w' := by
  have h := r32_of_v (fun j => l.getD j 0) g d w hd hg (fun j hj => hc j _ (by
    rw [List.getElem?_map, List.getElem?_eq_getElem (by omega), List.getD_eq_getElem?_getD, List.getElem?_eq_getElem (by omega)]; rfl))
  rw [← ofL_V] at h
  exact h
set_option maxRecDepth 100000 in
set_option maxHeartbeats 4000000 in
theorem r32_Parse_any (s : ByteArray) (hs : s.size ≤ 300) (w : World) : Calls Tryd.prog 7 #[.string s] w fun e w' => e = .returned (.tuple #[(cParse s.data.toList).1.V, .int .i64 (cParse s.data.toList).2]) ∧ Below w.heap.size w w' := by
  have HP := hide (show cParse s.data.toList = match oRead cFd (spl 59 s.data.toList) with | none => (zCC, 4) | some l => if cCheck (ofL l) = 0 then (ofL l, 0) else (zCC, cCheck (ofL l)) from rfl)
  have hlen : ∀ l, oRead cFd (spl 59 s.data.toList) = some l → l.length = 24 := fun l h => read_len h
  rw [own_ref cFd_ok] at HP hlen
  have hn := fun W => r32_numbers_any s hs W
  go_enter Tryd.func7, Tryd.ntmps7
  go_upto_region 1 with fail
  generalize hV : World.alloc w _ = w1
  have hb1 : Below w.heap.size w w1 := by subst hV; (repeat (first | with_reducible exact Below.refl _ _ | with_reducible assumption | with_reducible refine Below.drew ?_ | with_reducible refine Below.drewN ?_ _ | with_reducible refine Below.alloc1 ?_ _ | with_reducible refine Below.setCell1 ?_ (by first | omega | (simp; done) | (simp; omega)) _ | with_reducible refine Below.step ?_ (by with_reducible assumption)))
  have k0 : Bk w1 w.heap.size 44 zCC.C := by subst hV; exact Bk.new w _ _
  clear hV
  go_wp2_with fail
  refine (hn _).mono ?_; rintro e w2 hN
  obtain ⟨A, n, d, ok, he, hm, hx⟩ := hN
  subst he
  replace k0 := k0.step hx
  replace hb1 := hb1.step hx
  clear hx hn
  cases ho : rRun (pxs cFd) s.data.toList with
  | none =>
    rw [ho] at hm HP
    obtain rfl := hm
    replace HP : Hid (cParse s.data.toList = (zCC, 4)) := HP
    go_wp2_with (first | (refine wpList_store_row rfl 44 _ _ rfl _ (zCC.C).toArray rfl rfl _ _ k0 (by kernel_rfl) (by kernel_rfl) (by kernel_rfl) ?_))
    refine bodyPost_ret (v := .tuple #[zCC.V, .int .i64 4]) ?_ rfl ⟨by rw [HP.out], setRow_below hb1 (Nat.le_refl _) _⟩
    exact results_row_val rfl _ _ w.heap.size _ _ _ _ rfl rfl (k0.row zCC.C) Tryd.underlying44 rfl (by kernel_rfl)
  | some l =>
    rw [ho] at hm HP
    have hl := hlen l ho
    obtain ⟨rfl, rfl, hnd, hrow⟩ := hm
    rw [hl] at hnd hrow ⊢
    obtain ⟨g, rfl, hg, hc⟩ := hrow (by decide)
    have hof := r32_of_any l hl g d w2 hnd hg hc
    have hch := fun W => r32_Check_any (ofL l) W
    clear hlen hl hrow hc ho
    replace HP : Hid (cParse s.data.toList = if cCheck (ofL l) = 0 then (ofL l, 0) else (zCC, cCheck (ofL l))) := HP
    generalize ofL l = c at *
    generalize cCheck c = v at *
    go_wp2_with fail
    refine hof.mono ?_; rintro e w3 ⟨rfl, hx⟩
    replace k0 := k0.step hx
    replace hb1 := hb1.step hx
    clear hx hof
    have hlt3 := k0.lt
    go_upto_region 5 with (first | (refine wpList_store_row rfl 44 _ _ rfl _ (c.C).toArray rfl rfl _ _ (Bk.new _ _ _) (by kernel_rfl) (by kernel_rfl) (by kernel_rfl) ?_) | fail)
    generalize hV : World.setRow _ _ _ = w4
    have hx : Below w3.heap.size w3 w4 := by subst hV; exact setRow_below ((Below.refl _ _).alloc1 _) (Nat.le_refl _) _
    have kc : Bk w4 w3.heap.size 44 c.C := by subst hV; exact (Bk.new w3 _ _).row _
    clear hV
    replace k0 := k0.step hx
    replace hb1 := hb1.step hx
    clear hx
    go_wp2_with (first | (refine wpList_load_row rfl 44 _ rfl _ rfl _ _ (0, 0) _ kc Tryd.underlying44 rfl (by kernel_rfl) ?_) | fail)
    refine (hch _).mono ?_; rintro e w5 ⟨rfl, hx⟩
    replace k0 := k0.step hx
    replace kc := kc.step hx
    replace hb1 := hb1.step hx
    clear hx
    by_cases hv : v = 0
    · subst hv
      replace HP : Hid (cParse s.data.toList = (c, 0)) := HP
      have hne : w.heap.size ≠ w3.heap.size := by omega
      go_wp2_with (first | (refine wpList_load_row rfl 44 _ rfl _ rfl _ _ (0, 0) _ kc Tryd.underlying44 rfl (by kernel_rfl) ?_) | (refine wpList_store_row rfl 44 _ _ rfl _ (c.C).toArray rfl rfl _ _ k0 (by kernel_rfl) (by kernel_rfl) (by kernel_rfl) ?_))
      refine bodyPost_ret (v := .tuple #[c.V, .int .i64 0]) ?_ rfl ⟨by rw [HP.out], setRow_below hb1 (Nat.le_refl _) _⟩
      exact results_row_val rfl _ _ w.heap.size _ _ _ _ rfl rfl (k0.row c.C) Tryd.underlying44 rfl (by kernel_rfl)
    · have hv2 : (v != 0) = true := by simp [hv]
      have HP2 := HP.out
      rw [if_neg hv] at HP2
      replace HP := hide HP2
      clear HP2
      go_wp2_with (first | (refine wpList_load_row rfl 44 _ rfl _ rfl _ _ (0, 0) _ kc Tryd.underlying44 rfl (by kernel_rfl) ?_) | fail)
      refine (hch _).mono ?_; rintro e w6 ⟨rfl, hx⟩
      replace k0 := k0.step hx
      replace hb1 := hb1.step hx
      clear hx
      go_wp2_with (first | (refine wpList_store_row rfl 44 _ _ rfl _ (zCC.C).toArray rfl rfl _ _ k0 (by kernel_rfl) (by kernel_rfl) (by kernel_rfl) ?_))
      refine bodyPost_ret (v := .tuple #[zCC.V, .int .i64 v]) ?_ rfl ⟨by rw [HP.out], setRow_below hb1 (Nat.le_refl _) _⟩
      exact results_row_val rfl _ _ w.heap.size _ _ _ _ rfl rfl (k0.row zCC.C) Tryd.underlying44 rfl (by kernel_rfl)
end Go.Proofs.YtfbllioegeadfaaDoor
