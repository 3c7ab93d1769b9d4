/- callboylaw18: Conf, own, Back. -/
import Derived.Test.YtolpiaehleefbaaAdm2
import Derived.Test.YtolpiaehleefbaaSt18
import Derived.Test.YtolpiaehleefbaaRef14e
namespace Go.Proofs.Ytolpiaehleefbaa
open Go.RowKit Go.Sort
set_option linter.unusedSimpArgs false
set_option linter.unusedVariables false

set_option maxRecDepth 100000 in
set_option maxHeartbeats 8000000 in
theorem law18_Conf_any (c : AC) (w : World) : Calls Try.prog 8 #[c.V] w fun e w' => e = .returned c.V ∧ Below w.heap.size w w' := by
  unfold AC.V
  obtain ⟨ab, ar, eb, er, up, dn, hold, lo, hi⟩ := c
  dsimp only
  go_enter Try.func8, Try.ntmps8
  go_upto_region 1 with fail
  generalize hV : World.alloc (World.alloc w _) _ = w1
  have hb1 : Below w.heap.size w w1 := by subst hV; (repeat (first | with_reducible exact Below.refl _ _ | with_reducible assumption | with_reducible refine Below.drew ?_ | with_reducible refine Below.drewN ?_ _ | with_reducible refine Below.alloc1 ?_ _ | with_reducible refine Below.setCell1 ?_ (by first | omega | (simp; done) | (simp; omega)) _ | with_reducible refine Below.step ?_ (by with_reducible assumption)))
  have k0 : Bk w1 w.heap.size 31 (acC ab ar eb er up dn hold lo hi) := by subst hV; (repeat (first | with_reducible exact Bk.new' _ _ _ _ (by simp; done) | with_reducible assumption | with_reducible refine Bk.alloc ?_ _ | with_reducible refine Bk.drew ?_ | with_reducible refine Bk.drewN ?_ _ | with_reducible refine Bk.step ?_ (by with_reducible assumption) | with_reducible refine Bk.far ?_ (by first | omega | (simp; done) | (simp; omega)) _))
  have k1 : Bk w1 (w.heap.size + 1) 44 [.int .i64 0, .int .i64 0, .int .i64 0, .int .i64 0, .int .i64 0, .int .i64 0, .int .i64 0, .int .i64 0, .int .i64 0, .int .i64 0, .int .i64 0, .int .i64 0, .int .i64 0, .int .i64 0, .int .i64 0, .int .i64 0, .int .i64 0, .int .i64 0, .int .i64 0] := by subst hV; (repeat (first | with_reducible exact Bk.new' _ _ _ _ (by simp; done) | with_reducible assumption | with_reducible refine Bk.alloc ?_ _ | with_reducible refine Bk.drew ?_ | with_reducible refine Bk.drewN ?_ _ | with_reducible refine Bk.step ?_ (by with_reducible assumption) | with_reducible refine Bk.far ?_ (by first | omega | (simp; done) | (simp; omega)) _))
  clear hV
  have k0_0 := k0.cell 0; have k0_f0 := k0.frozen 0; have k0_1 := k0.cell 1; have k0_f1 := k0.frozen 1; have k0_2 := k0.cell 2; have k0_f2 := k0.frozen 2; have k0_3 := k0.cell 3; have k0_f3 := k0.frozen 3; have k0_4 := k0.cell 4; have k0_f4 := k0.frozen 4; have k0_5 := k0.cell 5; have k0_f5 := k0.frozen 5; have k0_6 := k0.cell 6; have k0_f6 := k0.frozen 6; have k0_7 := k0.cell 7; have k0_f7 := k0.frozen 7; have k0_8 := k0.cell 8; have k0_f8 := k0.frozen 8; have k0_9 := k0.cell 9; have k0_f9 := k0.frozen 9; have k0_10 := k0.cell 10; have k0_f10 := k0.frozen 10; have k0_11 := k0.cell 11; have k0_f11 := k0.frozen 11; have k0_12 := k0.cell 12; have k0_f12 := k0.frozen 12; have k0_13 := k0.cell 13; have k0_f13 := k0.frozen 13; have k0_14 := k0.cell 14; have k0_f14 := k0.frozen 14; have k0_15 := k0.cell 15; have k0_f15 := k0.frozen 15; have k0_16 := k0.cell 16; have k0_f16 := k0.frozen 16; have k0_17 := k0.cell 17; have k0_f17 := k0.frozen 17; have k0_18 := k0.cell 18; have k0_f18 := k0.frozen 18; simp only [List.set_cons_zero, List.set_cons_succ, List.getElem?_cons_zero, List.getElem?_cons_succ] at k0_0 k0_1 k0_2 k0_3 k0_4 k0_5 k0_6 k0_7 k0_8 k0_9 k0_10 k0_11 k0_12 k0_13 k0_14 k0_15 k0_16 k0_17 k0_18; have lt_k0 := k0.lt
  go_wp2_with (first | (refine wpList_store_row rfl 44 _ _ rfl _ (acC ab ar eb er up dn hold lo hi).toArray rfl rfl _ _ k1 (by kernel_rfl) (by kernel_rfl) (by kernel_rfl) ?_))
  have r2 := k1.row (acC ab ar eb er up dn hold lo hi)
  refine bodyPost_ret (v := .agg (acC ab ar eb er up dn hold lo hi).toArray) ?_ rfl ?_
  · exact results_cell_row rfl _ _ _ _ _ (0, 0) _ rfl r2 Try.underlying44 rfl (by kernel_rfl)
  · exact ⟨rfl, setRow_below hb1 (by omega) _⟩
set_option maxRecDepth 100000 in
set_option maxHeartbeats 8000000 in
theorem law18_own_any (x : AS) (A : Option Addr) (d : Nat) (w : World) (hl : x.es.length ≤ 1000) (ha : Rd w w.heap.size A (enR x.es)) :
    Calls Try.prog 9 #[x.V A d] w fun e w' => ∃ B d', e = .returned (x.V B d') ∧ Rd w' w'.heap.size B (enR x.es) ∧ Below w.heap.size w w' ∧ TyA w' 146 B := by
  have hO := fun (W : World) (h : Below w.heap.size w W) => law14_Own_own A d x.es W hl ((ha.below h).more h.size)
  unfold AS.V at *
  obtain ⟨t, a, es, l, s, v, le, se⟩ := x
  dsimp only at *
  go_enter Try.func9, Try.ntmps9
  go_upto_region 1 with fail
  generalize hV : World.alloc (World.alloc w _) _ = w1
  have hb1 : Below w.heap.size w w1 := by subst hV; (repeat (first | with_reducible exact Below.refl _ _ | with_reducible assumption | with_reducible refine Below.drew ?_ | with_reducible refine Below.drewN ?_ _ | with_reducible refine Below.alloc1 ?_ _ | with_reducible refine Below.setCell1 ?_ (by first | omega | (simp; done) | (simp; omega)) _ | with_reducible refine Below.step ?_ (by with_reducible assumption)))
  have k0 : Bk w1 w.heap.size 38 (azC t a A es.length d l s v le se) := by subst hV; (repeat (first | with_reducible exact Bk.new' _ _ _ _ (by simp; done) | with_reducible assumption | with_reducible refine Bk.alloc ?_ _ | with_reducible refine Bk.drew ?_ | with_reducible refine Bk.drewN ?_ _ | with_reducible refine Bk.step ?_ (by with_reducible assumption) | with_reducible refine Bk.far ?_ (by first | omega | (simp; done) | (simp; omega)) _))
  have k1 : Bk w1 (w.heap.size + 1) 51 (azC 0 0 none 0 0 0 0 0 0 0) := by subst hV; (repeat (first | with_reducible exact Bk.new' _ _ _ _ (by simp; done) | with_reducible assumption | with_reducible refine Bk.alloc ?_ _ | with_reducible refine Bk.drew ?_ | with_reducible refine Bk.drewN ?_ _ | with_reducible refine Bk.step ?_ (by with_reducible assumption) | with_reducible refine Bk.far ?_ (by first | omega | (simp; done) | (simp; omega)) _))
  clear hV
  have lk1 := k1.lt
  have k0_0 := k0.cell 0; have k0_f0 := k0.frozen 0; have k0_1 := k0.cell 1; have k0_f1 := k0.frozen 1; have k0_2 := k0.cell 2; have k0_f2 := k0.frozen 2; have k0_3 := k0.cell 3; have k0_f3 := k0.frozen 3; have k0_4 := k0.cell 4; have k0_f4 := k0.frozen 4; have k0_5 := k0.cell 5; have k0_f5 := k0.frozen 5; have k0_6 := k0.cell 6; have k0_f6 := k0.frozen 6; have k0_7 := k0.cell 7; have k0_f7 := k0.frozen 7; simp only [List.set_cons_zero, List.set_cons_succ, List.getElem?_cons_zero, List.getElem?_cons_succ] at k0_0 k0_1 k0_2 k0_3 k0_4 k0_5 k0_6 k0_7; have lt_k0 := k0.lt
  refine wp_region_mt 12 [(4, OwnAtR w1.heap.size 146 3 es.length (enR es))] (by kernel_rfl) (by kernel_rfl) (by kernel_rfl) (by kernel_rfl) (sts_cons (sts_ownR _ _ _ _ _) sts_nil) (fun kq => ?_); (try dsimp only [List.append, List.take])
  (repeat (refine wpM_via (by kernel_rfl) ?_; go_big_quiet_step (fail); refine wpQuiet_nil ?_))
  (refine wpM_spec _ (OwnAtR w1.heap.size 146 3 es.length (enR es)) (by kernel_rfl) (by kernel_rfl) rfl (later_some _) ?_ ?_; (focus (intro x hx hk; obtain ⟨px, rfl⟩ := hx; go_simp; (first | with_reducible refine mUpon_enter ?_ | with_reducible refine mUpon_value ?_); go_at_call 30; exact (hO _ (hb1.step (below_regrown w1 _ _))).mono fun _ _ ⟨B, d', he, ho, hb⟩ => ⟨_, he, ⟨B, d', rfl⟩, ⟨B, d', rfl, own_base14 ho (below_regrown w1 _ _).size⟩, hb⟩)); intro v hv K hK; obtain ⟨B, d2, rfl⟩ := hv; go_big_quiet_op; refine hK _ ?_; clear hK K)
  (repeat (refine wpM_via (by kernel_rfl) ?_; go_big_quiet_step (fail); refine wpQuiet_nil ?_))
  refine wpM_nil ?_; intro wq hwq hfq; have hbq := below_of_class hwq; clear hwq kq; (try dsimp only [List.drop])
  have own := own_ofR (base := w1.heap.size) hfq.1
  have k2 := k1.step hbq
  replace hb1 : Below w.heap.size w wq := hb1.step hbq
  (try clear k0_0 k0_f0 k0_1 k0_f1 k0_2 k0_f2 k0_3 k0_f3 k0_4 k0_f4 k0_5 k0_f5 k0_6 k0_f6 k0_7 k0_f7 lt_k0)
  clear hfq hbq k0 k1 hO
  refine wpList_store_row rfl 51 _ _ rfl (w.heap.size + 1) (azC t a B es.length d2 l s v le se).toArray rfl rfl _ _ k2 (by kernel_rfl) (by kernel_rfl) (by kernel_rfl) ?_
  have r2 := k2.row (azC t a B es.length d2 l s v le se)
  go_wp2
  refine bodyPost_ret (v := .agg (azC t a B es.length d2 l s v le se).toArray) ?_ rfl ?_
  · exact results_cell_row rfl _ _ _ _ _ (0, 0) _ rfl r2 Try.underlying51 rfl (by kernel_rfl)
  · exact ⟨B, d2, rfl, (own_rd own).rowFar (fun ad e => by have := (own_blk own ad e).1; omega) _, setRow_below hb1 (by omega) _, (own_ty own).rowFar (fun ad e => by have := (own_blk own ad e).1; omega) _⟩
set_option maxRecDepth 100000 in
set_option maxHeartbeats 8000000 in
theorem law18_Back_any (x : AS) (A : Option Addr) (d : Nat) (w : World) (hl : x.es.length ≤ 1000) (ha : Rd w w.heap.size A (enR x.es)) :
    Calls Try.prog 15 #[x.V A d] w fun e w' => ∃ B d', e = .returned (x.V B d') ∧ Rd w' w'.heap.size B (enR x.es) ∧ Below w.heap.size w w' := by
  have hO := fun (W : World) (h : Below w.heap.size w W) => law14_Back_own A d x.es W hl ((ha.below h).more h.size)
  unfold AS.V at *
  obtain ⟨t, a, es, l, s, v, le, se⟩ := x
  dsimp only at *
  go_enter Try.func15, Try.ntmps15
  go_upto_region 1 with fail
  generalize hV : World.alloc (World.alloc w _) _ = w1
  have hb1 : Below w.heap.size w w1 := by subst hV; (repeat (first | with_reducible exact Below.refl _ _ | with_reducible assumption | with_reducible refine Below.drew ?_ | with_reducible refine Below.drewN ?_ _ | with_reducible refine Below.alloc1 ?_ _ | with_reducible refine Below.setCell1 ?_ (by first | omega | (simp; done) | (simp; omega)) _ | with_reducible refine Below.step ?_ (by with_reducible assumption)))
  have k0 : Bk w1 w.heap.size 51 (azC t a A es.length d l s v le se) := by subst hV; (repeat (first | with_reducible exact Bk.new' _ _ _ _ (by simp; done) | with_reducible assumption | with_reducible refine Bk.alloc ?_ _ | with_reducible refine Bk.drew ?_ | with_reducible refine Bk.drewN ?_ _ | with_reducible refine Bk.step ?_ (by with_reducible assumption) | with_reducible refine Bk.far ?_ (by first | omega | (simp; done) | (simp; omega)) _))
  have k1 : Bk w1 (w.heap.size + 1) 38 (azC 0 0 none 0 0 0 0 0 0 0) := by subst hV; (repeat (first | with_reducible exact Bk.new' _ _ _ _ (by simp; done) | with_reducible assumption | with_reducible refine Bk.alloc ?_ _ | with_reducible refine Bk.drew ?_ | with_reducible refine Bk.drewN ?_ _ | with_reducible refine Bk.step ?_ (by with_reducible assumption) | with_reducible refine Bk.far ?_ (by first | omega | (simp; done) | (simp; omega)) _))
  clear hV
  have lk1 := k1.lt
  have k0_0 := k0.cell 0; have k0_f0 := k0.frozen 0; have k0_1 := k0.cell 1; have k0_f1 := k0.frozen 1; have k0_2 := k0.cell 2; have k0_f2 := k0.frozen 2; have k0_3 := k0.cell 3; have k0_f3 := k0.frozen 3; have k0_4 := k0.cell 4; have k0_f4 := k0.frozen 4; have k0_5 := k0.cell 5; have k0_f5 := k0.frozen 5; have k0_6 := k0.cell 6; have k0_f6 := k0.frozen 6; have k0_7 := k0.cell 7; have k0_f7 := k0.frozen 7; simp only [List.set_cons_zero, List.set_cons_succ, List.getElem?_cons_zero, List.getElem?_cons_succ] at k0_0 k0_1 k0_2 k0_3 k0_4 k0_5 k0_6 k0_7; have lt_k0 := k0.lt
  refine wp_region_mt 12 [(4, OwnAtR w1.heap.size 144 3 es.length (enR es))] (by kernel_rfl) (by kernel_rfl) (by kernel_rfl) (by kernel_rfl) (sts_cons (sts_ownR _ _ _ _ _) sts_nil) (fun kq => ?_); (try dsimp only [List.append, List.take])
  (repeat (refine wpM_via (by kernel_rfl) ?_; go_big_quiet_step (fail); refine wpQuiet_nil ?_))
  (refine wpM_spec _ (OwnAtR w1.heap.size 144 3 es.length (enR es)) (by kernel_rfl) (by kernel_rfl) rfl (later_some _) ?_ ?_; (focus (intro x hx hk; obtain ⟨px, rfl⟩ := hx; go_simp; (first | with_reducible refine mUpon_enter ?_ | with_reducible refine mUpon_value ?_); go_at_call 44; exact (hO _ (hb1.step (below_regrown w1 _ _))).mono fun _ _ ⟨B, d', he, ho, hb⟩ => ⟨_, he, ⟨B, d', rfl⟩, ⟨B, d', rfl, own_base14 ho (below_regrown w1 _ _).size⟩, hb⟩)); intro v hv K hK; obtain ⟨B, d2, rfl⟩ := hv; go_big_quiet_op; refine hK _ ?_; clear hK K)
  (repeat (refine wpM_via (by kernel_rfl) ?_; go_big_quiet_step (fail); refine wpQuiet_nil ?_))
  refine wpM_nil ?_; intro wq hwq hfq; have hbq := below_of_class hwq; clear hwq kq; (try dsimp only [List.drop])
  have own := own_ofR (base := w1.heap.size) hfq.1
  have k2 := k1.step hbq
  replace hb1 : Below w.heap.size w wq := hb1.step hbq
  (try clear k0_0 k0_f0 k0_1 k0_f1 k0_2 k0_f2 k0_3 k0_f3 k0_4 k0_f4 k0_5 k0_f5 k0_6 k0_f6 k0_7 k0_f7 lt_k0)
  clear hfq hbq k0 k1 hO
  refine wpList_store_row rfl 38 _ _ rfl (w.heap.size + 1) (azC t a B es.length d2 l s v le se).toArray rfl rfl _ _ k2 (by kernel_rfl) (by kernel_rfl) (by kernel_rfl) ?_
  have r2 := k2.row (azC t a B es.length d2 l s v le se)
  go_wp2
  refine bodyPost_ret (v := .agg (azC t a B es.length d2 l s v le se).toArray) ?_ rfl ?_
  · exact results_cell_row rfl _ _ _ _ _ (0, 0) _ rfl r2 Try.underlying38 rfl (by kernel_rfl)
  · exact ⟨B, d2, rfl, (own_rd own).rowFar (fun ad e => by have := (own_blk own ad e).1; omega) _, setRow_below hb1 (by omega) _⟩
end Go.Proofs.Ytolpiaehleefbaa
