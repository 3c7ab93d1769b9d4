/- The walk of AdmitAsks. -/
import Derived.Test.YtolpiaehleefbaaAwake18
import Derived.Test.YtolpiaehleefbaaRef18c
import Derived.Test.YtolpiaehleefbaaRef18d
import Derived.Test.YtolpiaehleefbaaSt18
namespace Go.Proofs.Ytolpiaehleefbaa
open Go.RowKit Go.Sort
set_option linter.unusedSimpArgs false
set_option linter.unusedVariables false

theorem u64_bd (n : Int) : 0 ≤ IntKind.u64.wrap n ∧ IntKind.u64.wrap n ≤ 18446744073709551615 := by rw [IntKind.wrap_u64]; omega
theorem r18_Same_self (x : AS) (A B : Option Addr) (c d : Nat) (w : World) (hl : x.es.length ≤ 1000) (ha : Rd w w.heap.size A (enR x.es)) (hb : Rd w w.heap.size B (enR x.es)) :
    Calls Try.prog 14 #[x.V A c, x.V B d] w fun e w' => e = .returned (.bool true) ∧ Below w.heap.size w w' :=
  (r18_Same_any x x A B c d w hl ha hb).lit (congrArg Value.bool (aSame_self x))
set_option maxRecDepth 100000 in
set_option maxHeartbeats 16000000 in
theorem AdmitAsks_walk (c : AC) (x : AS) (A : Option Addr) (d : Nat) (n0 n1 n2 n3 : Int) (w : World) (hl : x.es.length ≤ maxLen) (hlc : x.es.length ≤ d) (ha : Rd w w.heap.size A (enR x.es)) :
    Calls Try.prog 3 #[c.V, x.V A d, .agg #[.int .i64 n0, .int .i64 n1, .int .i64 n2, .int .i64 n3]] w fun e w' => e = .returned (.bool true) ∧ Below w.heap.size w w' := by
  by_cases h20 : 20 < x.es.length
  · have g1 : (20 : Int) < (x.es.length : Int) := by omega
    go_enter Try.func3, Try.ntmps3
    go_wp2_with fail
    refine (awake18_any _).mono ?_; rintro e y1 ⟨rfl, hx2⟩
    go_wp2
    go_ret
    exact ⟨rfl, by (repeat (first | with_reducible exact Below.refl _ _ | with_reducible assumption | with_reducible refine Below.drew ?_ | with_reducible refine Below.drewN ?_ _ | with_reducible refine Below.alloc1 ?_ _ | with_reducible refine Below.setCell1 ?_ (by first | omega | (simp; done) | (simp; omega)) _ | with_reducible refine Below.step ?_ (by with_reducible assumption)))⟩
  have g1 : (x.es.length : Int) ≤ 20 := by omega
  have hl1 : x.es.length ≤ 1000 := by omega
  have HL := hide (show ∀ m, (aAsk c x n0 n1 m).1.es.length ≤ 1000 from fun m => Nat.le_trans (aAsk_len c x n0 n1 m) (by omega))
  clear h20
  go_enter Try.func3, Try.ntmps3
  go_upto_region 1 with fail
  generalize hV : World.alloc (World.alloc (World.alloc w _) _) _ = w1
  have hb : Below w.heap.size w w1 := by subst hV; (repeat (first | with_reducible exact Below.refl _ _ | with_reducible assumption | with_reducible refine Below.drew ?_ | with_reducible refine Below.drewN ?_ _ | with_reducible refine Below.alloc1 ?_ _ | with_reducible refine Below.setCell1 ?_ (by first | omega | (simp; done) | (simp; omega)) _ | with_reducible refine Below.step ?_ (by with_reducible assumption)))
  have kc : Bk w1 w.heap.size 31 (acC c.ab c.ar c.eb c.er c.up c.dn c.hold c.lo c.hi) := by subst hV; (repeat (first | with_reducible exact Bk.new' _ _ _ _ (by simp; done) | with_reducible assumption | with_reducible refine Bk.alloc ?_ _ | with_reducible refine Bk.drew ?_ | with_reducible refine Bk.drewN ?_ _ | with_reducible refine Bk.step ?_ (by with_reducible assumption) | with_reducible refine Bk.far ?_ (by first | omega | (simp; done) | (simp; omega)) _))
  have ks : Bk w1 (w.heap.size + 1) 38 (azC x.t x.a A x.es.length d x.l x.s x.v x.le x.se) := by subst hV; (repeat (first | with_reducible exact Bk.new' _ _ _ _ (by simp; done) | with_reducible assumption | with_reducible refine Bk.alloc ?_ _ | with_reducible refine Bk.drew ?_ | with_reducible refine Bk.drewN ?_ _ | with_reducible refine Bk.step ?_ (by with_reducible assumption) | with_reducible refine Bk.far ?_ (by first | omega | (simp; done) | (simp; omega)) _))
  have kn : Bk w1 (w.heap.size + 1 + 1) 27 [.int .i64 n0, .int .i64 n1, .int .i64 n2, .int .i64 n3] := by subst hV; (repeat (first | with_reducible exact Bk.new' _ _ _ _ (by simp; done) | with_reducible assumption | with_reducible refine Bk.alloc ?_ _ | with_reducible refine Bk.drew ?_ | with_reducible refine Bk.drewN ?_ _ | with_reducible refine Bk.step ?_ (by with_reducible assumption) | with_reducible refine Bk.far ?_ (by first | omega | (simp; done) | (simp; omega)) _))
  clear hV
  have rA := (ha.below hb).more hb.size
  have hL2 := ks.cell 2
  simp only [List.getElem?_cons_succ, List.getElem?_cons_zero] at hL2
  go_upto_region 3 with fail
  clear hL2
  refine wp_region_mt 6 [(1, only (.agg (acC c.ab c.ar c.eb c.er c.up c.dn c.hold c.lo c.hi).toArray)), (3, StT 146 x), (4, NewBk w1.heap.size 44 [.int .i64 0, .int .i64 0, .int .i64 0, .int .i64 0, .int .i64 0, .int .i64 0, .int .i64 0, .int .i64 0, .int .i64 0, .int .i64 0, .int .i64 0, .int .i64 0, .int .i64 0, .int .i64 0, .int .i64 0, .int .i64 0, .int .i64 0, .int .i64 0, .int .i64 0]), (5, NewBk w1.heap.size 51 [.int .i64 0, .int .i64 0, .slice none 0 0, .int .i64 0, .int .i64 0, .int .i64 0, .int .i64 0, .int .i64 0])] (by kernel_rfl) (by kernel_rfl) (by kernel_rfl) (by kernel_rfl) (sts_cons (sts_only _) (sts_cons (sts_stT _ _) (sts_cons (sts_newBk _ _ _) (sts_cons (sts_newBk _ _ _) sts_nil)))) (fun kq => ?_); (try dsimp only [List.append, List.take])
  (refine wpM_load _ 31 _ rfl rfl _ 0 rfl ((acC c.ab c.ar c.eb c.er c.up c.dn c.hold c.lo c.hi)) (fun x hx => by obtain ⟨px, rfl⟩ := hx; exact (kc.step (below_regrown _ _ _)).range 0 _ rfl) _ Try.underlying31 rfl (by kernel_rfl) (later_some _) (by kernel_rfl) (by kernel_rfl) ?_; intro K hK; go_big_quiet_op; refine hK _ ?_; clear hK K)
  (refine wpM_only _ (.agg (acC c.ab c.ar c.eb c.er c.up c.dn c.hold c.lo c.hi).toArray) (by kernel_rfl) (by kernel_rfl) rfl (later_some _) ?_ ?_; (focus (intro x hx hk; obtain ⟨px, rfl⟩ := hx; go_simp; (first | with_reducible refine mUpon_enter ?_ | with_reducible refine mUpon_value ?_); go_at_call 8; exact (law18_Conf_any c _).mo)); intro K hK; go_big_quiet_op; refine hK _ ?_; clear hK K)
  (refine wpM_load _ 38 _ rfl rfl _ 0 rfl (azC x.t x.a A x.es.length d x.l x.s x.v x.le x.se) (fun x hx => by obtain ⟨px, rfl⟩ := hx; exact (ks.step (below_regrown _ _ _)).range 0 _ rfl) _ Try.underlying38 rfl (by kernel_rfl) (later_some _) (by kernel_rfl) (by kernel_rfl) ?_; intro K hK; go_big_quiet_op; refine hK _ ?_; clear hK K)
  (refine wpM_spec _ (StT 146 x) (by kernel_rfl) (by kernel_rfl) rfl (later_some _) ?_ ?_; (focus (intro x hx hk; obtain ⟨px, rfl⟩ := hx; go_simp; (first | with_reducible refine mUpon_enter ?_ | with_reducible refine mUpon_value ?_); go_at_call 9; exact (law18_own_any x A d _ hl1 (rA.step (below_regrown _ _ _))).mstT)); intro v hv K hK; obtain ⟨X, dX, rfl⟩ := hv; go_big_quiet_op; refine hK _ ?_; clear hK K)
  (refine wpM_spec _ (NewBk w1.heap.size 44 [.int .i64 0, .int .i64 0, .int .i64 0, .int .i64 0, .int .i64 0, .int .i64 0, .int .i64 0, .int .i64 0, .int .i64 0, .int .i64 0, .int .i64 0, .int .i64 0, .int .i64 0, .int .i64 0, .int .i64 0, .int .i64 0, .int .i64 0, .int .i64 0, .int .i64 0]) (by kernel_rfl) (by kernel_rfl) rfl (later_some _) ?_ ?_; (focus (intro x hx hk; obtain ⟨px, rfl⟩ := hx; go_simp; (first | with_reducible refine mUpon_enter ?_ | with_reducible refine mUpon_value ?_); exact newBk_new (by simp [Go.Sort.grow]) rfl (by simp [Go.Sort.grow, redrawn]))); intro v hv K hK; obtain ⟨g7, rfl, hg7⟩ := hv; go_big_quiet_op; refine hK _ ?_; clear hK K)
  (refine wpM_spec _ (NewBk w1.heap.size 51 [.int .i64 0, .int .i64 0, .slice none 0 0, .int .i64 0, .int .i64 0, .int .i64 0, .int .i64 0, .int .i64 0]) (by kernel_rfl) (by kernel_rfl) rfl (later_some _) ?_ ?_; (focus (intro x hx hk; obtain ⟨px, rfl⟩ := hx; go_simp; (first | with_reducible refine mUpon_enter ?_ | with_reducible refine mUpon_value ?_); exact newBk_new (by simp [Go.Sort.grow]) rfl (by simp [Go.Sort.grow, redrawn]))); intro v hv K hK; obtain ⟨g8, rfl, hg8⟩ := hv; go_big_quiet_op; refine hK _ ?_; clear hK K)
  refine wpM_nil ?_; intro wq hwq hfq; have hbq := below_of_class hwq; clear hwq kq; (try dsimp only [List.drop])
  have q7 : Bk wq g7 44 [.int .i64 0, .int .i64 0, .int .i64 0, .int .i64 0, .int .i64 0, .int .i64 0, .int .i64 0, .int .i64 0, .int .i64 0, .int .i64 0, .int .i64 0, .int .i64 0, .int .i64 0, .int .i64 0, .int .i64 0, .int .i64 0, .int .i64 0, .int .i64 0, .int .i64 0] := newBk_of (base := w1.heap.size) hfq.2.1
  have q8 : Bk wq g8 51 [.int .i64 0, .int .i64 0, .slice none 0 0, .int .i64 0, .int .i64 0, .int .i64 0, .int .i64 0, .int .i64 0] := newBk_of (base := w1.heap.size) hfq.1
  obtain ⟨rX, tX⟩ := stT_of hfq.2.2.1
  have hne : g8 ≠ g7 := fun e => by subst e; exact Bk.apart q7 q8 (by decide)
  clear hfq
  have r8 := q8.rowFar hne (acC c.ab c.ar c.eb c.er c.up c.dn c.hold c.lo c.hi).toArray
  (refine wpList_store_row rfl 44 _ _ rfl _ ((acC c.ab c.ar c.eb c.er c.up c.dn c.hold c.lo c.hi)).toArray rfl rfl _ _ q7 (by kernel_rfl) (by kernel_rfl) (by kernel_rfl) ?_)
  (refine wpList_store_row rfl 51 _ _ rfl _ (azC x.t x.a X x.es.length dX x.l x.s x.v x.le x.se).toArray rfl rfl _ _ r8 (by kernel_rfl) (by kernel_rfl) (by kernel_rfl) ?_)
  have kd := (q7.row (acC c.ab c.ar c.eb c.er c.up c.dn c.hold c.lo c.hi)).rowFar (g := g8) (Ne.symm hne) (azC x.t x.a X x.es.length dX x.l x.s x.v x.le x.se).toArray
  have kx := r8.row (azC x.t x.a X x.es.length dX x.l x.s x.v x.le x.se)
  replace rX := (rX.rowFar (tX.ne q7 (by decide)) (acC c.ab c.ar c.eb c.er c.up c.dn c.hold c.lo c.hi).toArray).rowFar (tX.ne q8 (by decide)) (azC x.t x.a X x.es.length dX x.l x.s x.v x.le x.se).toArray
  have hy := setRow_below (setRow_below hbq hg7 (acC c.ab c.ar c.eb c.er c.up c.dn c.hold c.lo c.hi).toArray) hg8 (azC x.t x.a X x.es.length dX x.l x.s x.v x.le x.se).toArray
  generalize hV : World.setRow (World.setRow _ _ _) _ _ = z1 at kd kx rX hy ⊢
  replace kc := kc.step hy; replace ks := ks.step hy; replace kn := kn.step hy
  replace rA := rA.step hy
  replace hb : Below w.heap.size w z1 := hb.step hy
  clear hV hy hbq q7 q8 r8 tX
  go_upto_region 4 with fail
  have kn_0 := kn.cell 0; have kn_f0 := kn.frozen 0; have kn_1 := kn.cell 1; have kn_f1 := kn.frozen 1; have kn_2 := kn.cell 2; have kn_f2 := kn.frozen 2; have kn_3 := kn.cell 3; have kn_f3 := kn.frozen 3; simp only [List.set_cons_zero, List.set_cons_succ, List.getElem?_cons_zero, List.getElem?_cons_succ] at kn_0 kn_1 kn_2 kn_3; have lt_kn := kn.lt
  go_upto_region 5 with fail
  have hd := u64_bd n3
  generalize IntKind.u64.wrap n3 = dr at *
  have hA1 := fun W h => admit_Ask_any c x X dX n0 n1 dr hd W hl1 h
  have hA2 := fun W h => r18_Ask_any c x A d n0 n1 dr hd W hl1 hlc h
  have qy : (aAsk c x n0 n1 dr).1.es.length ≤ 1000 := HL.out dr
  generalize aAsk c x n0 n1 dr = R0 at *
  obtain ⟨y, e0, h0⟩ := R0
  dsimp only at *
  go_wp2_with (first | (refine wpList_load_row rfl 44 _ rfl _ rfl _ _ (0, 0) _ kd Try.underlying44 rfl (by kernel_rfl) ?_) | (refine wpList_load_row rfl 51 _ rfl _ rfl _ _ (0, 0) _ kx Try.underlying51 rfl (by kernel_rfl) ?_))
  refine (hA1 _ rX).mono ?_; rintro e y1 ⟨Aa, da, rfl, ra, _, hx⟩
  replace kc := kc.step hx; replace ks := ks.step hx; replace kd := kd.step hx; replace kx := kx.step hx
  replace kn := kn.step hx; (try clear kn_0 kn_f0 kn_1 kn_f1 kn_2 kn_f2 kn_3 kn_f3); have kn_0 := kn.cell 0; have kn_f0 := kn.frozen 0; have kn_1 := kn.cell 1; have kn_f1 := kn.frozen 1; have kn_2 := kn.cell 2; have kn_f2 := kn.frozen 2; have kn_3 := kn.cell 3; have kn_f3 := kn.frozen 3; simp only [List.set_cons_zero, List.set_cons_succ, List.getElem?_cons_zero, List.getElem?_cons_succ] at kn_0 kn_1 kn_2 kn_3; (try clear lt_kn); have lt_kn := kn.lt
  replace rA := rA.step hx; replace rX := rX.step hx
  replace hb : Below w.heap.size w y1 := hb.step hx
  clear hx hA1
  have q6 := (Bk.new y1 51 [.int .i64 0, .int .i64 0, .slice none 0 0, .int .i64 0, .int .i64 0, .int .i64 0, .int .i64 0, .int .i64 0]).alloc (.cells ([.int .i64 0, .int .i64 0] : List Value).toArray 56)
  have q7 := (Bk.new (y1.alloc (.cells ([.int .i64 0, .int .i64 0, .slice none 0 0, .int .i64 0, .int .i64 0, .int .i64 0, .int .i64 0, .int .i64 0] : List Value).toArray 51)) 56 [.int .i64 0, .int .i64 0]).rowFar (g := y1.heap.size) (by simp) (azC y.t y.a Aa y.es.length da y.l y.s y.v y.le y.se).toArray
  have hsz : (y1.alloc (.cells ([.int .i64 0, .int .i64 0, .slice none 0 0, .int .i64 0, .int .i64 0, .int .i64 0, .int .i64 0, .int .i64 0] : List Value).toArray 51)).heap.size = y1.heap.size + 1 := by simp
  rw [hsz] at q7
  go_upto_region 6 with (first | (refine wpList_store_row rfl 51 _ _ rfl _ (azC y.t y.a Aa y.es.length da y.l y.s y.v y.le y.se).toArray rfl rfl _ _ q6 (by kernel_rfl) (by kernel_rfl) (by kernel_rfl) ?_) | (refine wpList_store_row rfl 56 _ _ rfl _ ([.int .i64 e0, .int .i64 h0]).toArray rfl rfl _ _ q7 (by kernel_rfl) (by kernel_rfl) (by kernel_rfl) ?_))
  have ka := (q6.row (azC y.t y.a Aa y.es.length da y.l y.s y.v y.le y.se)).rowFar (g := y1.heap.size + 1) (by omega) ([.int .i64 e0, .int .i64 h0] : List Value).toArray
  have kv := q7.row [.int .i64 e0, .int .i64 h0]
  have a1 : Below y1.heap.size y1 ((y1.alloc (.cells ([.int .i64 0, .int .i64 0, .slice none 0 0, .int .i64 0, .int .i64 0, .int .i64 0, .int .i64 0, .int .i64 0] : List Value).toArray 51)).alloc (.cells ([.int .i64 0, .int .i64 0] : List Value).toArray 56)) := by (repeat (first | with_reducible exact Below.refl _ _ | with_reducible assumption | with_reducible refine Below.drew ?_ | with_reducible refine Below.drewN ?_ _ | with_reducible refine Below.alloc1 ?_ _ | with_reducible refine Below.setCell1 ?_ (by first | omega | (simp; done) | (simp; omega)) _ | with_reducible refine Below.step ?_ (by with_reducible assumption)))
  have hy := setRow_below (setRow_below a1 (Nat.le_refl _) (azC y.t y.a Aa y.es.length da y.l y.s y.v y.le y.se).toArray) (g := y1.heap.size + 1) (by omega) ([.int .i64 e0, .int .i64 h0] : List Value).toArray
  generalize hV : World.setRow (World.setRow _ _ _) _ _ = z2 at ka kv hy ⊢
  replace kc := kc.step hy; replace ks := ks.step hy; replace kd := kd.step hy; replace kx := kx.step hy
  replace kn := kn.step hy; (try clear kn_0 kn_f0 kn_1 kn_f1 kn_2 kn_f2 kn_3 kn_f3); have kn_0 := kn.cell 0; have kn_f0 := kn.frozen 0; have kn_1 := kn.cell 1; have kn_f1 := kn.frozen 1; have kn_2 := kn.cell 2; have kn_f2 := kn.frozen 2; have kn_3 := kn.cell 3; have kn_f3 := kn.frozen 3; simp only [List.set_cons_zero, List.set_cons_succ, List.getElem?_cons_zero, List.getElem?_cons_succ] at kn_0 kn_1 kn_2 kn_3; (try clear lt_kn); have lt_kn := kn.lt
  replace rA := rA.step hy; replace rX := rX.step hy; replace ra := ra.step hy
  replace hb : Below w.heap.size w z2 := hb.step hy
  clear hV hy q6 q7 hsz a1
  go_wp2_with (first | (refine wpList_load_row rfl 31 _ rfl _ rfl _ _ (0, 0) _ kc Try.underlying31 rfl (by kernel_rfl) ?_) | (refine wpList_load_row rfl 38 _ rfl _ rfl _ _ (0, 0) _ ks Try.underlying38 rfl (by kernel_rfl) ?_))
  refine (hA2 _ rA).mono ?_; rintro e y2 ⟨Ab, db, rfl, rb, _, hx⟩
  replace kc := kc.step hx; replace ks := ks.step hx; replace kd := kd.step hx; replace kx := kx.step hx; replace ka := ka.step hx; replace kv := kv.step hx
  replace kn := kn.step hx; (try clear kn_0 kn_f0 kn_1 kn_f1 kn_2 kn_f2 kn_3 kn_f3); have kn_0 := kn.cell 0; have kn_f0 := kn.frozen 0; have kn_1 := kn.cell 1; have kn_f1 := kn.frozen 1; have kn_2 := kn.cell 2; have kn_f2 := kn.frozen 2; have kn_3 := kn.cell 3; have kn_f3 := kn.frozen 3; simp only [List.set_cons_zero, List.set_cons_succ, List.getElem?_cons_zero, List.getElem?_cons_succ] at kn_0 kn_1 kn_2 kn_3; (try clear lt_kn); have lt_kn := kn.lt
  replace rA := rA.step hx; replace rX := rX.step hx; replace ra := ra.step hx
  replace hb : Below w.heap.size w y2 := hb.step hx
  clear hx hA2
  have q6 := (Bk.new y2 38 [.int .i64 0, .int .i64 0, .slice none 0 0, .int .i64 0, .int .i64 0, .int .i64 0, .int .i64 0, .int .i64 0]).alloc (.cells ([.int .i64 0, .int .i64 0] : List Value).toArray 60)
  have q7 := (Bk.new (y2.alloc (.cells ([.int .i64 0, .int .i64 0, .slice none 0 0, .int .i64 0, .int .i64 0, .int .i64 0, .int .i64 0, .int .i64 0] : List Value).toArray 38)) 60 [.int .i64 0, .int .i64 0]).rowFar (g := y2.heap.size) (by simp) (azC y.t y.a Ab y.es.length db y.l y.s y.v y.le y.se).toArray
  have hsz : (y2.alloc (.cells ([.int .i64 0, .int .i64 0, .slice none 0 0, .int .i64 0, .int .i64 0, .int .i64 0, .int .i64 0, .int .i64 0] : List Value).toArray 38)).heap.size = y2.heap.size + 1 := by simp
  rw [hsz] at q7
  go_upto_region 7 with (first | (refine wpList_store_row rfl 38 _ _ rfl _ (azC y.t y.a Ab y.es.length db y.l y.s y.v y.le y.se).toArray rfl rfl _ _ q6 (by kernel_rfl) (by kernel_rfl) (by kernel_rfl) ?_) | (refine wpList_store_row rfl 60 _ _ rfl _ ([.int .i64 e0, .int .i64 h0]).toArray rfl rfl _ _ q7 (by kernel_rfl) (by kernel_rfl) (by kernel_rfl) ?_))
  have kb := (q6.row (azC y.t y.a Ab y.es.length db y.l y.s y.v y.le y.se)).rowFar (g := y2.heap.size + 1) (by omega) ([.int .i64 e0, .int .i64 h0] : List Value).toArray
  have kw := q7.row [.int .i64 e0, .int .i64 h0]
  have a1 : Below y2.heap.size y2 ((y2.alloc (.cells ([.int .i64 0, .int .i64 0, .slice none 0 0, .int .i64 0, .int .i64 0, .int .i64 0, .int .i64 0, .int .i64 0] : List Value).toArray 38)).alloc (.cells ([.int .i64 0, .int .i64 0] : List Value).toArray 60)) := by (repeat (first | with_reducible exact Below.refl _ _ | with_reducible assumption | with_reducible refine Below.drew ?_ | with_reducible refine Below.drewN ?_ _ | with_reducible refine Below.alloc1 ?_ _ | with_reducible refine Below.setCell1 ?_ (by first | omega | (simp; done) | (simp; omega)) _ | with_reducible refine Below.step ?_ (by with_reducible assumption)))
  have hy := setRow_below (setRow_below a1 (Nat.le_refl _) (azC y.t y.a Ab y.es.length db y.l y.s y.v y.le y.se).toArray) (g := y2.heap.size + 1) (by omega) ([.int .i64 e0, .int .i64 h0] : List Value).toArray
  generalize hV : World.setRow (World.setRow _ _ _) _ _ = z3 at kb kw hy ⊢
  replace kc := kc.step hy; replace ks := ks.step hy; replace kd := kd.step hy; replace kx := kx.step hy; replace ka := ka.step hy; replace kv := kv.step hy
  replace kn := kn.step hy; (try clear kn_0 kn_f0 kn_1 kn_f1 kn_2 kn_f2 kn_3 kn_f3); have kn_0 := kn.cell 0; have kn_f0 := kn.frozen 0; have kn_1 := kn.cell 1; have kn_f1 := kn.frozen 1; have kn_2 := kn.cell 2; have kn_f2 := kn.frozen 2; have kn_3 := kn.cell 3; have kn_f3 := kn.frozen 3; simp only [List.set_cons_zero, List.set_cons_succ, List.getElem?_cons_zero, List.getElem?_cons_succ] at kn_0 kn_1 kn_2 kn_3; (try clear lt_kn); have lt_kn := kn.lt
  replace rA := rA.step hy; replace rX := rX.step hy; replace ra := ra.step hy; replace rb := rb.step hy
  replace hb : Below w.heap.size w z3 := hb.step hy
  clear hV hy q6 q7 hsz a1
  have hN1 := fun W => admit_New_any c W
  have hN2 := fun W => r18_New_any c W
  have hZ := hide (aNew_es c)
  generalize aNew c = Z0 at *
  obtain ⟨z, f0⟩ := Z0
  dsimp only at *
  go_wp2_with (first | (refine wpList_load_row rfl 44 _ rfl _ rfl _ _ (0, 0) _ kd Try.underlying44 rfl (by kernel_rfl) ?_))
  refine (hN1 _).mono ?_; rintro e y3 ⟨rfl, hx⟩
  replace kc := kc.step hx; replace ks := ks.step hx; replace kd := kd.step hx; replace kx := kx.step hx; replace ka := ka.step hx; replace kv := kv.step hx; replace kb := kb.step hx; replace kw := kw.step hx
  replace kn := kn.step hx; (try clear kn_0 kn_f0 kn_1 kn_f1 kn_2 kn_f2 kn_3 kn_f3); have kn_0 := kn.cell 0; have kn_f0 := kn.frozen 0; have kn_1 := kn.cell 1; have kn_f1 := kn.frozen 1; have kn_2 := kn.cell 2; have kn_f2 := kn.frozen 2; have kn_3 := kn.cell 3; have kn_f3 := kn.frozen 3; simp only [List.set_cons_zero, List.set_cons_succ, List.getElem?_cons_zero, List.getElem?_cons_succ] at kn_0 kn_1 kn_2 kn_3; (try clear lt_kn); have lt_kn := kn.lt
  replace rA := rA.step hx; replace rX := rX.step hx; replace ra := ra.step hx; replace rb := rb.step hx
  replace hb : Below w.heap.size w y3 := hb.step hx
  clear hx hN1
  have kz := Bk.new y3 51 [.int .i64 0, .int .i64 0, .slice none 0 0, .int .i64 0, .int .i64 0, .int .i64 0, .int .i64 0, .int .i64 0]
  go_upto_region 8 with (first | (refine wpList_store_row rfl 51 _ _ rfl _ (azC z.t z.a none z.es.length 0 z.l z.s z.v z.le z.se).toArray rfl rfl _ _ kz (by kernel_rfl) (by kernel_rfl) (by kernel_rfl) ?_))
  have kt := kz.row (azC z.t z.a none z.es.length 0 z.l z.s z.v z.le z.se)
  have hy := setRow_below (Below.alloc1 (Below.refl y3.heap.size y3) (.cells ([.int .i64 0, .int .i64 0, .slice none 0 0, .int .i64 0, .int .i64 0, .int .i64 0, .int .i64 0, .int .i64 0] : List Value).toArray 51)) (Nat.le_refl _) (azC z.t z.a none z.es.length 0 z.l z.s z.v z.le z.se).toArray
  generalize hV : World.setRow _ _ _ = z4 at kt hy ⊢
  replace kc := kc.step hy; replace ks := ks.step hy; replace kd := kd.step hy; replace kx := kx.step hy; replace ka := ka.step hy; replace kv := kv.step hy; replace kb := kb.step hy; replace kw := kw.step hy
  replace kn := kn.step hy; (try clear kn_0 kn_f0 kn_1 kn_f1 kn_2 kn_f2 kn_3 kn_f3); have kn_0 := kn.cell 0; have kn_f0 := kn.frozen 0; have kn_1 := kn.cell 1; have kn_f1 := kn.frozen 1; have kn_2 := kn.cell 2; have kn_f2 := kn.frozen 2; have kn_3 := kn.cell 3; have kn_f3 := kn.frozen 3; simp only [List.set_cons_zero, List.set_cons_succ, List.getElem?_cons_zero, List.getElem?_cons_succ] at kn_0 kn_1 kn_2 kn_3; (try clear lt_kn); have lt_kn := kn.lt
  replace rA := rA.step hy; replace rX := rX.step hy; replace ra := ra.step hy; replace rb := rb.step hy
  replace hb : Below w.heap.size w z4 := hb.step hy
  clear hV hy kz
  go_wp2_with (first | (refine wpList_load_row rfl 31 _ rfl _ rfl _ _ (0, 0) _ kc Try.underlying31 rfl (by kernel_rfl) ?_))
  refine (hN2 _).mono ?_; rintro e y4 ⟨rfl, hx⟩
  replace kc := kc.step hx; replace ks := ks.step hx; replace kd := kd.step hx; replace kx := kx.step hx; replace ka := ka.step hx; replace kv := kv.step hx; replace kb := kb.step hx; replace kw := kw.step hx; replace kt := kt.step hx
  replace kn := kn.step hx; (try clear kn_0 kn_f0 kn_1 kn_f1 kn_2 kn_f2 kn_3 kn_f3); have kn_0 := kn.cell 0; have kn_f0 := kn.frozen 0; have kn_1 := kn.cell 1; have kn_f1 := kn.frozen 1; have kn_2 := kn.cell 2; have kn_f2 := kn.frozen 2; have kn_3 := kn.cell 3; have kn_f3 := kn.frozen 3; simp only [List.set_cons_zero, List.set_cons_succ, List.getElem?_cons_zero, List.getElem?_cons_succ] at kn_0 kn_1 kn_2 kn_3; (try clear lt_kn); have lt_kn := kn.lt
  replace rA := rA.step hx; replace rX := rX.step hx; replace ra := ra.step hx; replace rb := rb.step hx
  replace hb : Below w.heap.size w y4 := hb.step hx
  clear hx hN2
  have kz := Bk.new y4 38 [.int .i64 0, .int .i64 0, .slice none 0 0, .int .i64 0, .int .i64 0, .int .i64 0, .int .i64 0, .int .i64 0]
  go_upto_region 9 with (first | (refine wpList_store_row rfl 38 _ _ rfl _ (azC z.t z.a none z.es.length 0 z.l z.s z.v z.le z.se).toArray rfl rfl _ _ kz (by kernel_rfl) (by kernel_rfl) (by kernel_rfl) ?_))
  have ku := kz.row (azC z.t z.a none z.es.length 0 z.l z.s z.v z.le z.se)
  have hy := setRow_below (Below.alloc1 (Below.refl y4.heap.size y4) (.cells ([.int .i64 0, .int .i64 0, .slice none 0 0, .int .i64 0, .int .i64 0, .int .i64 0, .int .i64 0, .int .i64 0] : List Value).toArray 38)) (Nat.le_refl _) (azC z.t z.a none z.es.length 0 z.l z.s z.v z.le z.se).toArray
  generalize hV : World.setRow _ _ _ = z5 at ku hy ⊢
  replace kc := kc.step hy; replace ks := ks.step hy; replace kd := kd.step hy; replace kx := kx.step hy; replace ka := ka.step hy; replace kv := kv.step hy; replace kb := kb.step hy; replace kw := kw.step hy; replace kt := kt.step hy
  replace kn := kn.step hy; (try clear kn_0 kn_f0 kn_1 kn_f1 kn_2 kn_f2 kn_3 kn_f3); have kn_0 := kn.cell 0; have kn_f0 := kn.frozen 0; have kn_1 := kn.cell 1; have kn_f1 := kn.frozen 1; have kn_2 := kn.cell 2; have kn_f2 := kn.frozen 2; have kn_3 := kn.cell 3; have kn_f3 := kn.frozen 3; simp only [List.set_cons_zero, List.set_cons_succ, List.getElem?_cons_zero, List.getElem?_cons_succ] at kn_0 kn_1 kn_2 kn_3; (try clear lt_kn); have lt_kn := kn.lt
  replace rA := rA.step hy; replace rX := rX.step hy; replace ra := ra.step hy; replace rb := rb.step hy
  replace hb : Below w.heap.size w z5 := hb.step hy
  clear hV hy kz
  have kv_0 := kv.cell 0; have kv_f0 := kv.frozen 0; have kv_1 := kv.cell 1; have kv_f1 := kv.frozen 1; simp only [List.set_cons_zero, List.set_cons_succ, List.getElem?_cons_zero, List.getElem?_cons_succ] at kv_0 kv_1; have lt_kv := kv.lt; have kw_0 := kw.cell 0; have kw_f0 := kw.frozen 0; have kw_1 := kw.cell 1; have kw_f1 := kw.frozen 1; simp only [List.set_cons_zero, List.set_cons_succ, List.getElem?_cons_zero, List.getElem?_cons_succ] at kw_0 kw_1; have lt_kw := kw.lt
  have hW1 := fun W h => admit_Would_any c x X dX n0 n1 W hl1 h
  have hW2 := fun W h => r18_Would_any c x A d n0 n1 W hl1 hlc h
  generalize aWould c x n0 n1 = wv at *
  go_wp2_with fail
  refine wp_region_m [(1, StAt y), (3, only (.bool true)), (26, only (.int .i64 wv)), (33, only (.int .i64 wv))] (by kernel_rfl) (by kernel_rfl) (by kernel_rfl) (by kernel_rfl) (sts_cons (sts_st _) (sts_cons (sts_only _) (sts_cons (sts_only _) (sts_cons (sts_only _) sts_nil)))) (fun kq => ?_); (try dsimp only [List.append])
  (refine wpM_load _ 51 _ rfl rfl _ 0 rfl ((azC y.t y.a Aa y.es.length da y.l y.s y.v y.le y.se)) (fun x hx => by obtain ⟨px, rfl⟩ := hx; exact (ka.step (below_regrown _ _ _)).range 0 _ rfl) _ Try.underlying51 rfl (by kernel_rfl) (later_some _) (by kernel_rfl) (by kernel_rfl) ?_; intro K hK; go_big_quiet_op; refine hK _ ?_; clear hK K)
  (refine wpM_spec _ (StAt y) (by kernel_rfl) (by kernel_rfl) rfl (later_some _) ?_ ?_; (focus (intro x hx hk; obtain ⟨px, rfl⟩ := hx; go_simp; (first | with_reducible refine mUpon_enter ?_ | with_reducible refine mUpon_value ?_); go_at_call 15; exact (law18_Back_any y Aa da _ qy (ra.step (below_regrown _ _ _))).mst)); intro v hv K hK; obtain ⟨E1, e1, rfl⟩ := hv; go_big_quiet_op; refine hK _ ?_; clear hK K)
  (refine wpM_load _ 38 _ rfl rfl _ 0 rfl ((azC y.t y.a Ab y.es.length db y.l y.s y.v y.le y.se)) (fun x hx => by obtain ⟨px, rfl⟩ := hx; exact (kb.step (below_regrown _ _ _)).range 0 _ rfl) _ Try.underlying38 rfl (by kernel_rfl) (later_some _) (by kernel_rfl) (by kernel_rfl) ?_; intro K hK; go_big_quiet_op; refine hK _ ?_; clear hK K)
  (refine wpM_only _ (.bool true) (by kernel_rfl) (by kernel_rfl) rfl (later_some _) ?_ ?_; (focus (intro x hx hk; obtain ⟨px, rfl⟩ := hx; go_simp; (first | with_reducible refine mUpon_enter ?_ | with_reducible refine mUpon_value ?_); go_at_call 14; exact (r18_Same_self y E1 Ab e1 db _ qy (st_of (hk.1 (by kernel_rfl))) (rb.step (below_regrown _ _ _))).mo)); intro K hK; go_big_quiet_op; refine hK _ ?_; clear hK K)
  iterate 16 (refine wpM_via (by kernel_rfl) ?_; go_big_quiet_step (fail); refine wpQuiet_nil ?_)
  (refine wpM_load _ 44 _ rfl rfl _ 0 rfl ((acC c.ab c.ar c.eb c.er c.up c.dn c.hold c.lo c.hi)) (fun x hx => by obtain ⟨px, rfl⟩ := hx; exact (kd.step (below_regrown _ _ _)).range 0 _ rfl) _ Try.underlying44 rfl (by kernel_rfl) (later_some _) (by kernel_rfl) (by kernel_rfl) ?_; intro K hK; go_big_quiet_op; refine hK _ ?_; clear hK K)
  (refine wpM_load _ 51 _ rfl rfl _ 0 rfl ((azC x.t x.a X x.es.length dX x.l x.s x.v x.le x.se)) (fun x hx => by obtain ⟨px, rfl⟩ := hx; exact (kx.step (below_regrown _ _ _)).range 0 _ rfl) _ Try.underlying51 rfl (by kernel_rfl) (later_some _) (by kernel_rfl) (by kernel_rfl) ?_; intro K hK; go_big_quiet_op; refine hK _ ?_; clear hK K)
  iterate 4 (refine wpM_via (by kernel_rfl) ?_; go_big_quiet_step (fail); refine wpQuiet_nil ?_)
  (refine wpM_only _ (.int .i64 wv) (by kernel_rfl) (by kernel_rfl) rfl (later_some _) ?_ ?_; (focus (intro x hx hk; obtain ⟨px, rfl⟩ := hx; go_simp; (first | with_reducible refine mUpon_enter ?_ | with_reducible refine mUpon_value ?_); go_at_call 16; exact (hW1 _ (rX.step (below_regrown _ _ _))).mo)); intro K hK; go_big_quiet_op; refine hK _ ?_; clear hK K)
  (refine wpM_load _ 31 _ rfl rfl _ 0 rfl ((acC c.ab c.ar c.eb c.er c.up c.dn c.hold c.lo c.hi)) (fun x hx => by obtain ⟨px, rfl⟩ := hx; exact (kc.step (below_regrown _ _ _)).range 0 _ rfl) _ Try.underlying31 rfl (by kernel_rfl) (later_some _) (by kernel_rfl) (by kernel_rfl) ?_; intro K hK; go_big_quiet_op; refine hK _ ?_; clear hK K)
  (refine wpM_load _ 38 _ rfl rfl _ 0 rfl ((azC x.t x.a A x.es.length d x.l x.s x.v x.le x.se)) (fun x hx => by obtain ⟨px, rfl⟩ := hx; exact (ks.step (below_regrown _ _ _)).range 0 _ rfl) _ Try.underlying38 rfl (by kernel_rfl) (later_some _) (by kernel_rfl) (by kernel_rfl) ?_; intro K hK; go_big_quiet_op; refine hK _ ?_; clear hK K)
  iterate 4 (refine wpM_via (by kernel_rfl) ?_; go_big_quiet_step (fail); refine wpQuiet_nil ?_)
  (refine wpM_only _ (.int .i64 wv) (by kernel_rfl) (by kernel_rfl) rfl (later_some _) ?_ ?_; (focus (intro x hx hk; obtain ⟨px, rfl⟩ := hx; go_simp; (first | with_reducible refine mUpon_enter ?_ | with_reducible refine mUpon_value ?_); go_at_call 17; exact (hW2 _ (rA.step (below_regrown _ _ _))).mo)); intro K hK; go_big_quiet_op; refine hK _ ?_; clear hK K)
  iterate 2 (refine wpM_via (by kernel_rfl) ?_; go_big_quiet_step (fail); refine wpQuiet_nil ?_)
  refine wpM_nil ?_; intro wq hwq hfq; have hbq := below_of_class hwq; clear hwq kq; (try dsimp only [List.drop])
  (try clear kv_0 kv_f0 kv_1 kv_f1 lt_kv) ; (try clear kw_0 kw_f0 kw_1 kw_f1 lt_kw)
  clear kv kw hW1 hW2 hfq
  replace kc := kc.step hbq; replace ks := ks.step hbq; replace kd := kd.step hbq; replace kx := kx.step hbq; replace ka := ka.step hbq; replace kb := kb.step hbq; replace kt := kt.step hbq; replace ku := ku.step hbq
  replace kn := kn.step hbq; (try clear kn_0 kn_f0 kn_1 kn_f1 kn_2 kn_f2 kn_3 kn_f3); have kn_0 := kn.cell 0; have kn_f0 := kn.frozen 0; have kn_1 := kn.cell 1; have kn_f1 := kn.frozen 1; have kn_2 := kn.cell 2; have kn_f2 := kn.frozen 2; have kn_3 := kn.cell 3; have kn_f3 := kn.frozen 3; simp only [List.set_cons_zero, List.set_cons_succ, List.getElem?_cons_zero, List.getElem?_cons_succ] at kn_0 kn_1 kn_2 kn_3; (try clear lt_kn); have lt_kn := kn.lt
  replace rA := rA.step hbq; replace rX := rX.step hbq; replace ra := ra.step hbq; replace rb := rb.step hbq
  replace hb : Below w.heap.size w wq := hb.step hbq
  clear hbq
  have hK1 := fun W h => admit_Tick_any c x X dX n2 n1 W hl1 h
  have hK2 := fun W h => r18_Tick_any c x A d n2 n1 W hl1 h
  have hTe := hide (aTick_es c x n2 n1)
  have hTl : (aTick c x n2 n1).es.length ≤ 1000 := by rw [aTick_es]; exact hl1
  generalize aTick c x n2 n1 = t at *
  have hF1 := fun W h => admit_Fine_any c x X dX W hl1 h
  have hF2 := fun W h => r18_Fine_any c x A d W hl1 h
  have hC1 := fun W => admit_Check_any c W
  have hC2 := fun W => r18_Check_any c W
  have hS1 := fun W h h' => admit_Same_any x y X Aa dX da W hl1 h h'
  have hS2 := fun W h h' => r18_Same_any x y A Ab d db W hl1 h h'
  generalize aFine c x = fv at *
  generalize aCheck c = cv at *
  generalize aSame x y = sv at *
  have hzl : z.es.length ≤ 1000 := by rw [hZ.out]; exact Nat.zero_le _
  go_wp2_with fail
  refine wp_region_m [(6, only (t.V X dX)), (7, StAt t), (14, only (t.V A d)), (15, only (.bool true)), (19, only (.int .i64 fv)), (22, only (.int .i64 fv)), (27, only (.int .i64 cv)), (29, only (.int .i64 cv)), (34, StAt z), (36, only (.bool true)), (46, only (.bool sv)), (49, only (.bool sv)), (54, StAt x), (56, only (.bool true)), (59, only (.bool true))] (by kernel_rfl) (lexB_of_fast (by kernel_rfl)) (by kernel_rfl) (by kernel_rfl) (sts_cons (sts_only _) (sts_cons (sts_st _) (sts_cons (sts_only _) (sts_cons (sts_only _) (sts_cons (sts_only _) (sts_cons (sts_only _) (sts_cons (sts_only _) (sts_cons (sts_only _) (sts_cons (sts_st _) (sts_cons (sts_only _) (sts_cons (sts_only _) (sts_cons (sts_only _) (sts_cons (sts_st _) (sts_cons (sts_only _) (sts_cons (sts_only _) sts_nil))))))))))))))) (fun kq => ?_); (try dsimp only [List.append])
  (refine wpM_load _ 44 _ rfl rfl _ 0 rfl ((acC c.ab c.ar c.eb c.er c.up c.dn c.hold c.lo c.hi)) (fun x hx => by obtain ⟨px, rfl⟩ := hx; exact (kd.step (below_regrown _ _ _)).range 0 _ rfl) _ Try.underlying44 rfl (by kernel_rfl) (later_some _) (by kernel_rfl) (by kernel_rfl) ?_; intro K hK; go_big_quiet_op; refine hK _ ?_; clear hK K)
  (refine wpM_load _ 51 _ rfl rfl _ 0 rfl ((azC x.t x.a X x.es.length dX x.l x.s x.v x.le x.se)) (fun x hx => by obtain ⟨px, rfl⟩ := hx; exact (kx.step (below_regrown _ _ _)).range 0 _ rfl) _ Try.underlying51 rfl (by kernel_rfl) (later_some _) (by kernel_rfl) (by kernel_rfl) ?_; intro K hK; go_big_quiet_op; refine hK _ ?_; clear hK K)
  iterate 4 (refine wpM_via (by kernel_rfl) ?_; go_big_quiet_step (fail); refine wpQuiet_nil ?_)
  (refine wpM_only _ (t.V X dX) (by kernel_rfl) (by kernel_rfl) rfl (later_some _) ?_ ?_; (focus (intro x hx hk; obtain ⟨px, rfl⟩ := hx; go_simp; (first | with_reducible refine mUpon_enter ?_ | with_reducible refine mUpon_value ?_); go_at_call 18; exact (hK1 _ (rX.step (below_regrown _ _ _))).mo)); intro K hK; go_big_quiet_op; refine hK _ ?_; clear hK K)
  (refine wpM_spec _ (StAt t) (by kernel_rfl) (by kernel_rfl) rfl (later_some _) ?_ ?_; (focus (intro x hx hk; obtain ⟨px, rfl⟩ := hx; go_simp; (first | with_reducible refine mUpon_enter ?_ | with_reducible refine mUpon_value ?_); go_at_call 15; exact (law18_Back_any t X dX _ hTl (by rw [hTe.out]; exact rX.step (below_regrown _ _ _))).mst)); intro v hv K hK; obtain ⟨E2, e2, rfl⟩ := hv; go_big_quiet_op; refine hK _ ?_; clear hK K)
  (refine wpM_load _ 31 _ rfl rfl _ 0 rfl ((acC c.ab c.ar c.eb c.er c.up c.dn c.hold c.lo c.hi)) (fun x hx => by obtain ⟨px, rfl⟩ := hx; exact (kc.step (below_regrown _ _ _)).range 0 _ rfl) _ Try.underlying31 rfl (by kernel_rfl) (later_some _) (by kernel_rfl) (by kernel_rfl) ?_; intro K hK; go_big_quiet_op; refine hK _ ?_; clear hK K)
  (refine wpM_load _ 38 _ rfl rfl _ 0 rfl ((azC x.t x.a A x.es.length d x.l x.s x.v x.le x.se)) (fun x hx => by obtain ⟨px, rfl⟩ := hx; exact (ks.step (below_regrown _ _ _)).range 0 _ rfl) _ Try.underlying38 rfl (by kernel_rfl) (later_some _) (by kernel_rfl) (by kernel_rfl) ?_; intro K hK; go_big_quiet_op; refine hK _ ?_; clear hK K)
  iterate 4 (refine wpM_via (by kernel_rfl) ?_; go_big_quiet_step (fail); refine wpQuiet_nil ?_)
  (refine wpM_only _ (t.V A d) (by kernel_rfl) (by kernel_rfl) rfl (later_some _) ?_ ?_; (focus (intro x hx hk; obtain ⟨px, rfl⟩ := hx; go_simp; (first | with_reducible refine mUpon_enter ?_ | with_reducible refine mUpon_value ?_); go_at_call 19; exact (hK2 _ (rA.step (below_regrown _ _ _))).mo)); intro K hK; go_big_quiet_op; refine hK _ ?_; clear hK K)
  (refine wpM_only _ (.bool true) (by kernel_rfl) (by kernel_rfl) rfl (later_some _) ?_ ?_; (focus (intro x hx hk; obtain ⟨px, rfl⟩ := hx; go_simp; (first | with_reducible refine mUpon_enter ?_ | with_reducible refine mUpon_value ?_); go_at_call 14; exact (r18_Same_self t E2 A e2 d _ hTl (st_of (hk.1 (by kernel_rfl))) (by rw [hTe.out]; exact rA.step (below_regrown _ _ _))).mo)); intro K hK; go_big_quiet_op; refine hK _ ?_; clear hK K)
  as_aux_lemma =>
    iterate 1 (refine wpM_via (by kernel_rfl) ?_; go_big_quiet_step (fail); refine wpQuiet_nil ?_)
    (refine wpM_load _ 44 _ rfl rfl _ 0 rfl ((acC c.ab c.ar c.eb c.er c.up c.dn c.hold c.lo c.hi)) (fun x hx => by obtain ⟨px, rfl⟩ := hx; exact (kd.step (below_regrown _ _ _)).range 0 _ rfl) _ Try.underlying44 rfl (by kernel_rfl) (later_some _) (by kernel_rfl) (by kernel_rfl) ?_; intro K hK; go_big_quiet_op; refine hK _ ?_; clear hK K)
    (refine wpM_load _ 51 _ rfl rfl _ 0 rfl ((azC x.t x.a X x.es.length dX x.l x.s x.v x.le x.se)) (fun x hx => by obtain ⟨px, rfl⟩ := hx; exact (kx.step (below_regrown _ _ _)).range 0 _ rfl) _ Try.underlying51 rfl (by kernel_rfl) (later_some _) (by kernel_rfl) (by kernel_rfl) ?_; intro K hK; go_big_quiet_op; refine hK _ ?_; clear hK K)
    (refine wpM_only _ (.int .i64 fv) (by kernel_rfl) (by kernel_rfl) rfl (later_some _) ?_ ?_; (focus (intro x hx hk; obtain ⟨px, rfl⟩ := hx; go_simp; (first | with_reducible refine mUpon_enter ?_ | with_reducible refine mUpon_value ?_); go_at_call 20; exact (hF1 _ (rX.step (below_regrown _ _ _))).mo)); intro K hK; go_big_quiet_op; refine hK _ ?_; clear hK K)
    (refine wpM_load _ 31 _ rfl rfl _ 0 rfl ((acC c.ab c.ar c.eb c.er c.up c.dn c.hold c.lo c.hi)) (fun x hx => by obtain ⟨px, rfl⟩ := hx; exact (kc.step (below_regrown _ _ _)).range 0 _ rfl) _ Try.underlying31 rfl (by kernel_rfl) (later_some _) (by kernel_rfl) (by kernel_rfl) ?_; intro K hK; go_big_quiet_op; refine hK _ ?_; clear hK K)
    (refine wpM_load _ 38 _ rfl rfl _ 0 rfl ((azC x.t x.a A x.es.length d x.l x.s x.v x.le x.se)) (fun x hx => by obtain ⟨px, rfl⟩ := hx; exact (ks.step (below_regrown _ _ _)).range 0 _ rfl) _ Try.underlying38 rfl (by kernel_rfl) (later_some _) (by kernel_rfl) (by kernel_rfl) ?_; intro K hK; go_big_quiet_op; refine hK _ ?_; clear hK K)
    (refine wpM_only _ (.int .i64 fv) (by kernel_rfl) (by kernel_rfl) rfl (later_some _) ?_ ?_; (focus (intro x hx hk; obtain ⟨px, rfl⟩ := hx; go_simp; (first | with_reducible refine mUpon_enter ?_ | with_reducible refine mUpon_value ?_); go_at_call 21; exact (hF2 _ (rA.step (below_regrown _ _ _))).mo)); intro K hK; go_big_quiet_op; refine hK _ ?_; clear hK K)
    iterate 3 (refine wpM_via (by kernel_rfl) ?_; go_big_quiet_step (fail); refine wpQuiet_nil ?_)
    (refine wpM_load _ 44 _ rfl rfl _ 0 rfl ((acC c.ab c.ar c.eb c.er c.up c.dn c.hold c.lo c.hi)) (fun x hx => by obtain ⟨px, rfl⟩ := hx; exact (kd.step (below_regrown _ _ _)).range 0 _ rfl) _ Try.underlying44 rfl (by kernel_rfl) (later_some _) (by kernel_rfl) (by kernel_rfl) ?_; intro K hK; go_big_quiet_op; refine hK _ ?_; clear hK K)
    (refine wpM_only _ (.int .i64 cv) (by kernel_rfl) (by kernel_rfl) rfl (later_some _) ?_ ?_; (focus (intro x hx hk; obtain ⟨px, rfl⟩ := hx; go_simp; (first | with_reducible refine mUpon_enter ?_ | with_reducible refine mUpon_value ?_); go_at_call 22; exact (hC1 _).mo)); intro K hK; go_big_quiet_op; refine hK _ ?_; clear hK K)
    (refine wpM_load _ 31 _ rfl rfl _ 0 rfl ((acC c.ab c.ar c.eb c.er c.up c.dn c.hold c.lo c.hi)) (fun x hx => by obtain ⟨px, rfl⟩ := hx; exact (kc.step (below_regrown _ _ _)).range 0 _ rfl) _ Try.underlying31 rfl (by kernel_rfl) (later_some _) (by kernel_rfl) (by kernel_rfl) ?_; intro K hK; go_big_quiet_op; refine hK _ ?_; clear hK K)
    (refine wpM_only _ (.int .i64 cv) (by kernel_rfl) (by kernel_rfl) rfl (later_some _) ?_ ?_; (focus (intro x hx hk; obtain ⟨px, rfl⟩ := hx; go_simp; (first | with_reducible refine mUpon_enter ?_ | with_reducible refine mUpon_value ?_); go_at_call 23; exact (hC2 _).mo)); intro K hK; go_big_quiet_op; refine hK _ ?_; clear hK K)
    iterate 3 (refine wpM_via (by kernel_rfl) ?_; go_big_quiet_step (fail); refine wpQuiet_nil ?_)
    as_aux_lemma =>
      (refine wpM_load _ 51 _ rfl rfl _ 0 rfl ((azC z.t z.a none z.es.length 0 z.l z.s z.v z.le z.se)) (fun x hx => by obtain ⟨px, rfl⟩ := hx; exact (kt.step (below_regrown _ _ _)).range 0 _ rfl) _ Try.underlying51 rfl (by kernel_rfl) (later_some _) (by kernel_rfl) (by kernel_rfl) ?_; intro K hK; go_big_quiet_op; refine hK _ ?_; clear hK K)
      (refine wpM_spec _ (StAt z) (by kernel_rfl) (by kernel_rfl) rfl (later_some _) ?_ ?_; (focus (intro x hx hk; obtain ⟨px, rfl⟩ := hx; go_simp; (first | with_reducible refine mUpon_enter ?_ | with_reducible refine mUpon_value ?_); go_at_call 15; exact (law18_Back_any z none 0 _ hzl (by rw [hZ.out]; exact Rd.nil)).mst)); intro v hv K hK; obtain ⟨E3, e3, rfl⟩ := hv; go_big_quiet_op; refine hK _ ?_; clear hK K)
      (refine wpM_load _ 38 _ rfl rfl _ 0 rfl ((azC z.t z.a none z.es.length 0 z.l z.s z.v z.le z.se)) (fun x hx => by obtain ⟨px, rfl⟩ := hx; exact (ku.step (below_regrown _ _ _)).range 0 _ rfl) _ Try.underlying38 rfl (by kernel_rfl) (later_some _) (by kernel_rfl) (by kernel_rfl) ?_; intro K hK; go_big_quiet_op; refine hK _ ?_; clear hK K)
      (refine wpM_only _ (.bool true) (by kernel_rfl) (by kernel_rfl) rfl (later_some _) ?_ ?_; (focus (intro x hx hk; obtain ⟨px, rfl⟩ := hx; go_simp; (first | with_reducible refine mUpon_enter ?_ | with_reducible refine mUpon_value ?_); go_at_call 14; exact (r18_Same_self z E3 none e3 0 _ hzl (st_of (hk.1 (by kernel_rfl))) (by rw [hZ.out]; exact Rd.nil)).mo)); intro K hK; go_big_quiet_op; refine hK _ ?_; clear hK K)
      iterate 2 (refine wpM_via (by kernel_rfl) ?_; go_big_quiet_step (fail); refine wpQuiet_nil ?_)
      iterate 5 (refine wpM_via (by kernel_rfl) ?_; go_big_quiet_step (fail); refine wpQuiet_nil ?_)
      as_aux_lemma =>
        (refine wpM_load _ 51 _ rfl rfl _ 0 rfl ((azC x.t x.a X x.es.length dX x.l x.s x.v x.le x.se)) (fun x hx => by obtain ⟨px, rfl⟩ := hx; exact (kx.step (below_regrown _ _ _)).range 0 _ rfl) _ Try.underlying51 rfl (by kernel_rfl) (later_some _) (by kernel_rfl) (by kernel_rfl) ?_; intro K hK; go_big_quiet_op; refine hK _ ?_; clear hK K)
        (refine wpM_load _ 51 _ rfl rfl _ 0 rfl ((azC y.t y.a Aa y.es.length da y.l y.s y.v y.le y.se)) (fun x hx => by obtain ⟨px, rfl⟩ := hx; exact (ka.step (below_regrown _ _ _)).range 0 _ rfl) _ Try.underlying51 rfl (by kernel_rfl) (later_some _) (by kernel_rfl) (by kernel_rfl) ?_; intro K hK; go_big_quiet_op; refine hK _ ?_; clear hK K)
        (refine wpM_only _ (.bool sv) (by kernel_rfl) (by kernel_rfl) rfl (later_some _) ?_ ?_; (focus (intro x hx hk; obtain ⟨px, rfl⟩ := hx; go_simp; (first | with_reducible refine mUpon_enter ?_ | with_reducible refine mUpon_value ?_); go_at_call 24; exact (hS1 _ (rX.step (below_regrown _ _ _)) (ra.step (below_regrown _ _ _))).mo)); intro K hK; go_big_quiet_op; refine hK _ ?_; clear hK K)
        (refine wpM_load _ 38 _ rfl rfl _ 0 rfl ((azC x.t x.a A x.es.length d x.l x.s x.v x.le x.se)) (fun x hx => by obtain ⟨px, rfl⟩ := hx; exact (ks.step (below_regrown _ _ _)).range 0 _ rfl) _ Try.underlying38 rfl (by kernel_rfl) (later_some _) (by kernel_rfl) (by kernel_rfl) ?_; intro K hK; go_big_quiet_op; refine hK _ ?_; clear hK K)
        (refine wpM_load _ 38 _ rfl rfl _ 0 rfl ((azC y.t y.a Ab y.es.length db y.l y.s y.v y.le y.se)) (fun x hx => by obtain ⟨px, rfl⟩ := hx; exact (kb.step (below_regrown _ _ _)).range 0 _ rfl) _ Try.underlying38 rfl (by kernel_rfl) (later_some _) (by kernel_rfl) (by kernel_rfl) ?_; intro K hK; go_big_quiet_op; refine hK _ ?_; clear hK K)
        (refine wpM_only _ (.bool sv) (by kernel_rfl) (by kernel_rfl) rfl (later_some _) ?_ ?_; (focus (intro x hx hk; obtain ⟨px, rfl⟩ := hx; go_simp; (first | with_reducible refine mUpon_enter ?_ | with_reducible refine mUpon_value ?_); go_at_call 14; exact (hS2 _ (rA.step (below_regrown _ _ _)) (rb.step (below_regrown _ _ _))).mo)); intro K hK; go_big_quiet_op; refine hK _ ?_; clear hK K)
        iterate 3 (refine wpM_via (by kernel_rfl) ?_; go_big_quiet_step (fail); refine wpQuiet_nil ?_)
        as_aux_lemma =>
          (refine wpM_load _ 51 _ rfl rfl _ 0 rfl ((azC x.t x.a X x.es.length dX x.l x.s x.v x.le x.se)) (fun x hx => by obtain ⟨px, rfl⟩ := hx; exact (kx.step (below_regrown _ _ _)).range 0 _ rfl) _ Try.underlying51 rfl (by kernel_rfl) (later_some _) (by kernel_rfl) (by kernel_rfl) ?_; intro K hK; go_big_quiet_op; refine hK _ ?_; clear hK K)
          (refine wpM_spec _ (StAt x) (by kernel_rfl) (by kernel_rfl) rfl (later_some _) ?_ ?_; (focus (intro x hx hk; obtain ⟨px, rfl⟩ := hx; go_simp; (first | with_reducible refine mUpon_enter ?_ | with_reducible refine mUpon_value ?_); go_at_call 15; exact (law18_Back_any x X dX _ hl1 (rX.step (below_regrown _ _ _))).mst)); intro v hv K hK; obtain ⟨E4, e4, rfl⟩ := hv; go_big_quiet_op; refine hK _ ?_; clear hK K)
          (refine wpM_load _ 38 _ rfl rfl _ 0 rfl ((azC x.t x.a A x.es.length d x.l x.s x.v x.le x.se)) (fun x hx => by obtain ⟨px, rfl⟩ := hx; exact (ks.step (below_regrown _ _ _)).range 0 _ rfl) _ Try.underlying38 rfl (by kernel_rfl) (later_some _) (by kernel_rfl) (by kernel_rfl) ?_; intro K hK; go_big_quiet_op; refine hK _ ?_; clear hK K)
          (refine wpM_only _ (.bool true) (by kernel_rfl) (by kernel_rfl) rfl (later_some _) ?_ ?_; (focus (intro x hx hk; obtain ⟨px, rfl⟩ := hx; go_simp; (first | with_reducible refine mUpon_enter ?_ | with_reducible refine mUpon_value ?_); go_at_call 14; exact (r18_Same_self x E4 A e4 d _ hl1 (st_of (hk.1 (by kernel_rfl))) (rA.step (below_regrown _ _ _))).mo)); intro K hK; go_big_quiet_op; refine hK _ ?_; clear hK K)
          iterate 2 (refine wpM_via (by kernel_rfl) ?_; go_big_quiet_step (fail); refine wpQuiet_nil ?_)
          (refine wpM_only _ (.bool true) (by kernel_rfl) (by kernel_rfl) rfl (later_some _) ?_ ?_; (focus (intro x hx hk; obtain ⟨px, rfl⟩ := hx; go_simp; (first | with_reducible refine mUpon_enter ?_ | with_reducible refine mUpon_value ?_); go_at_call 7; exact (awake18_any _).mo)); intro K hK; go_big_quiet_op; refine hK _ ?_; clear hK K)
          (repeat (refine wpM_via (by kernel_rfl) ?_; go_big_quiet_step (fail); refine wpQuiet_nil ?_))
          refine wpM_nil ?_; intro wq hwq hfq; have hbq := below_of_class hwq; clear hwq kq; (try dsimp only [List.drop])
          go_wp2
          go_ret
          exact ⟨rfl, hb.step hbq⟩
end Go.Proofs.Ytolpiaehleefbaa
