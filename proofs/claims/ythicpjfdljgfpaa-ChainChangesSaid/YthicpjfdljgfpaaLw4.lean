/- callboylaw04: own, back, few; package callboyref04: New. -/
import Derived.Test.YthicpjfdljgfpaaRef04h
namespace Go.Proofs.Ythicpjfdljgfpaa
open Go.RowKit Go.Sort
set_option linter.unusedSimpArgs false
set_option linter.unusedVariables false

theorem rd_hn {w : World} {B : Nat} {ad : Addr} {xs : List Value} (h : Rd w B (some ad) xs) : ∀ j u, xs[j]? = some u → w.cell? (ad.add j) = some u := fun j u hj => by
  have hn : xs ≠ [] := fun e => by rw [e] at hj; cases hj
  obtain ⟨ad', e, _, hc⟩ := h hn
  injection e with e
  subst e
  exact hc j u hj
theorem nds_app (a b : List Nd) : nds (a ++ b) = nds a ++ nds b := by simp [nds]
set_option maxRecDepth 100000 in
set_option maxHeartbeats 8000000 in
theorem law04_own_at (V : Value) (st : Ch) (w : World) (h1 : st.ns.length ≤ 1000) (h2 : st.hs.length ≤ 1000) (h3 : st.ts.length ≤ 1000) (h : CsAt w V st) : Calls Try.prog 9 #[V] w fun e w' => ∃ V', e = .returned V' ∧ CsAt w' V' st ∧ Below w.heap.size w w' := by
  obtain ⟨A, B, C, a, b, c, rfl, rA, rB, rC⟩ := h
  obtain ⟨iT, hi, hz0, hz1, hz2⟩ := info_parts node_info
  go_enter Try.func9, Try.ntmps9
  go_upto_region 3 with fail
  generalize hV : World.alloc (World.alloc (World.alloc w _) _) _ = w1
  have hb1 : Below w.heap.size w w1 := by subst hV; (repeat (first | with_reducible exact Below.refl _ _ | with_reducible assumption | with_reducible refine Below.drew ?_ | with_reducible refine Below.drewN ?_ _ | with_reducible refine Below.alloc1 ?_ _ | with_reducible refine Below.setCell1 ?_ (by first | omega | (simp; done) | (simp; omega)) _ | with_reducible refine Below.step ?_ (by with_reducible assumption)))
  have k0 : Bk w1 w.heap.size 25 (csC A B C a b c st.ns.length st.hs.length st.ts.length) := by subst hV; (repeat (first | with_reducible exact Bk.new' _ _ _ _ (by simp; done) | with_reducible assumption | with_reducible refine Bk.alloc ?_ _ | with_reducible refine Bk.drew ?_ | with_reducible refine Bk.drewN ?_ _ | with_reducible refine Bk.step ?_ (by with_reducible assumption) | with_reducible refine Bk.far ?_ (by first | omega | (simp; done) | (simp; omega)) _))
  have k1 : Bk w1 (w.heap.size + 1) 30 (csC none none none 0 0 0 0 0 0) := by subst hV; exact (((Bk.new' (w.alloc (.cells (csC A B C a b c st.ns.length st.hs.length st.ts.length).toArray 25)) 30 (csC none none none 0 0 0 0 0 0) (w.heap.size + 1) (by simp)).alloc _))
  have k2 : Bk w1 (w.heap.size + 1 + 1) 30 (csC none B C 0 b c 0 st.hs.length st.ts.length) := by subst hV; exact Bk.new' _ _ _ _ (by simp)
  clear hV
  have l2 := k2.lt
  go_loopw [4] (fun i wr => ∃ k : Nat, k ≤ st.ns.length ∧ i = .int .i64 k ∧ (∃ W cW, Bk wr (w.heap.size + 1 + 1) 30 (csC W B C cW b c k st.hs.length st.ts.length) ∧ wr.ownsRow w1.heap.size 63 3 (.slice W k cW) k (nds (st.ns.take k))) ∧ Bk wr w.heap.size 25 (csC A B C a b c st.ns.length st.hs.length st.ts.length) ∧ Bk wr (w.heap.size + 1) 30 (csC none none none 0 0 0 0 0 0) ∧ w1.heap.size ≤ wr.heap.size ∧ Below w.heap.size w wr) (fun i _ => st.ns.length - (intOf i).toNat)
  case atStart => exact ⟨0, Nat.zero_le _, rfl, ⟨none, 0, k2, World.ownsRow_nil _ _ _ _⟩, k0, k1, Nat.le_refl _, hb1⟩
  case round =>
    clear k0 k1 k2 hb1
    generalize w1.heap.size = bW at *
    obtain ⟨k, hk, rfl, ⟨W, cW, k2, own⟩, k0, k1, hbw, hb⟩ := hrel
    have k0_0 := k0.cell 0; have k0_f0 := k0.frozen 0; have k0_1 := k0.cell 1; have k0_f1 := k0.frozen 1; have k0_2 := k0.cell 2; have k0_f2 := k0.frozen 2; simp only [List.set_cons_zero, List.set_cons_succ, List.getElem?_cons_zero, List.getElem?_cons_succ] at k0_0 k0_1 k0_2; have lt_k0 := k0.lt; have k1_0 := k1.cell 0; have k1_f0 := k1.frozen 0; have k1_1 := k1.cell 1; have k1_f1 := k1.frozen 1; have k1_2 := k1.cell 2; have k1_f2 := k1.frozen 2; simp only [List.set_cons_zero, List.set_cons_succ, List.getElem?_cons_zero, List.getElem?_cons_succ] at k1_0 k1_1 k1_2; have lt_k1 := k1.lt; have k2_0 := k2.cell 0; have k2_f0 := k2.frozen 0; have k2_1 := k2.cell 1; have k2_f1 := k2.frozen 1; have k2_2 := k2.cell 2; have k2_f2 := k2.frozen 2; simp only [List.set_cons_zero, List.set_cons_succ, List.getElem?_cons_zero, List.getElem?_cons_succ] at k2_0 k2_1 k2_2; have lt_k2 := k2.lt
    by_cases hlt : k < st.ns.length
    · have hki : (k : Int) < (st.ns.length : Int) := by omega
      obtain ⟨ad, rfl, hadb, c1, c2, c3⟩ := (rA.below hb).nd hlt
      have HSN := hide (show nds (st.ns.take (k + 1)) = nds (st.ns.take k) ++ ndC st.ns[k] by rw [take_snocL st.ns k hlt, nds_app]; simp [nds])
      generalize st.ns[k] = x at *
      have cq1 : ∀ d os, (grow (redrawn wr d) os).cell? (ad.add (k * 3)) = some (.int .i64 x.l) := fun d os => ((below_regrown wr d os).cell (by rw [add_block]; have := hb.size; omega)).trans c1
      have cq2 : ∀ d os, (grow (redrawn wr d) os).cell? ⟨(ad.add (k * 3)).block, (ad.add (k * 3)).off + 1, none⟩ = some (.int .i64 x.n) := fun d os => ((below_regrown wr d os).cell (by dsimp only; rw [add_block]; have := hb.size; omega)).trans c2
      have cq3 : ∀ d os, (grow (redrawn wr d) os).cell? ⟨(ad.add (k * 3)).block, (ad.add (k * 3)).off + 2, none⟩ = some (.int .i64 x.p) := fun d os => ((below_regrown wr d os).cell (by dsimp only; rw [add_block]; have := hb.size; omega)).trans c3
      go_wp2_with fail
      refine wp_region_mt 8 [(7, RowAt 1 (ndC x))] (by kernel_rfl) (by kernel_rfl) (by kernel_rfl) (by kernel_rfl) (sts_cons (sts_row _ _) sts_nil) (fun kq => ?_); (try dsimp only [List.append, List.take])
      (repeat (refine wpM_via (by kernel_rfl) ?_; go_big_quiet_step (fail); refine wpQuiet_nil ?_))
      (refine wpM_spec _ (RowAt 1 (ndC x)) (by kernel_rfl) (by kernel_rfl) rfl (later_some _) ?_ ?_; (focus (intro x hx hk; obtain ⟨px, rfl⟩ := hx; go_simp; (first | with_reducible refine mUpon_enter ?_ | with_reducible refine mUpon_value ?_); exact row_new (by simp [Go.Sort.grow]) rfl)); intro v hv K hK; obtain ⟨A2, c2', rfl⟩ := hv; go_big_quiet_op; refine hK _ ?_; clear hK K)
      refine wpM_nil ?_; intro wq hwq hfq; have hbq := below_of_class hwq; clear hwq kq; (try dsimp only [List.drop])
      have hrow := row_of hfq.1
      obtain ⟨ad2, rfl, hab, _⟩ := hrow (by simp)
      have hsq := hbq.size
      have own2 := own_below own hbq (Nat.le_refl _)
      replace hb : Below w.heap.size w wq := hb.step hbq
      replace k0 := k0.step hbq; (try clear k0_0 k0_f0 k0_1 k0_f1 k0_2 k0_f2); have k0_0 := k0.cell 0; have k0_f0 := k0.frozen 0; have k0_1 := k0.cell 1; have k0_f1 := k0.frozen 1; have k0_2 := k0.cell 2; have k0_f2 := k0.frozen 2; simp only [List.set_cons_zero, List.set_cons_succ, List.getElem?_cons_zero, List.getElem?_cons_succ] at k0_0 k0_1 k0_2; (try clear lt_k0); have lt_k0 := k0.lt; replace k1 := k1.step hbq; (try clear k1_0 k1_f0 k1_1 k1_f1 k1_2 k1_f2); have k1_0 := k1.cell 0; have k1_f0 := k1.frozen 0; have k1_1 := k1.cell 1; have k1_f1 := k1.frozen 1; have k1_2 := k1.cell 2; have k1_f2 := k1.frozen 2; simp only [List.set_cons_zero, List.set_cons_succ, List.getElem?_cons_zero, List.getElem?_cons_succ] at k1_0 k1_1 k1_2; (try clear lt_k1); have lt_k1 := k1.lt; replace k2 := k2.step hbq; (try clear k2_0 k2_f0 k2_1 k2_f1 k2_2 k2_f2); have k2_0 := k2.cell 0; have k2_f0 := k2.frozen 0; have k2_1 := k2.cell 1; have k2_f1 := k2.frozen 1; have k2_2 := k2.cell 2; have k2_f2 := k2.frozen 2; simp only [List.set_cons_zero, List.set_cons_succ, List.getElem?_cons_zero, List.getElem?_cons_succ] at k2_0 k2_1 k2_2; (try clear lt_k2); have lt_k2 := k2.lt
      clear hfq hbq own cq1 cq2 cq3 c1 c2 c3
      refine wpList_app2 rfl (.tmp 18) (.tmp 24) 28 rfl bW 63 iT _ 3 24 Try.underlying28 hi hz0 hz1 hz2 rfl (by omega) W k cW (nds (st.ns.take k)) rfl own2 ad2 1 c2' (ndC x) rfl rfl (rd_hn hrow) (by simp [Value.oneCell']) (by unfold maxLen; omega) (by omega) (by omega) (by omega) ?_
      intro g cap w7 own7 hb7 hgr7
      replace k0 := k0.below hb7 (by omega)
      replace k1 := k1.below hb7 (by omega)
      replace k2 := k2.below hb7 (by omega)
      (try clear k0_0 k0_f0 k0_1 k0_f1 k0_2 k0_f2 lt_k0) ; (try clear k1_0 k1_f0 k1_1 k1_f1 k1_2 k1_f2 lt_k1) ; (try clear k2_0 k2_f0 k2_1 k2_f1 k2_2 k2_f2 lt_k2)
      have hs7 := hb7.size
      replace hb : Below w.heap.size w w7 := hb.trans (hb7.mono (by omega))
      have k2_0 := k2.cell 0; have k2_f0 := k2.frozen 0; have k2_1 := k2.cell 1; have k2_f1 := k2.frozen 1; have k2_2 := k2.cell 2; have k2_f2 := k2.frozen 2; simp only [List.set_cons_zero, List.set_cons_succ, List.getElem?_cons_zero, List.getElem?_cons_succ] at k2_0 k2_1 k2_2; have lt_k2 := k2.lt
      go_wp2
      go_roundw
      case rel =>
        refine ⟨k + 1, by omega, by rw [Int.natCast_add]; rfl, ⟨some ⟨g, 0, none⟩, cap, k2.set_ 0 _, ?_⟩, k0.far (by dsimp only; omega) _, k1.far (by dsimp only; omega) _, by simp [World.setCell]; omega, hb.setCell (by dsimp only; omega) _⟩
        rw [HSN.out]; exact own_far own7 (by dsimp only; omega) _
      case measure => simp [intOf]; omega
    · have hke : k = st.ns.length := by omega
      subst hke
      rw [List.take_length] at own
      (try clear k1_0 k1_f0 k1_1 k1_f1 k1_2 k1_f2 lt_k1) ; (try clear k2_0 k2_f0 k2_1 k2_f1 k2_2 k2_f2 lt_k2)
      have ll := k2.lt
      go_wp2_with (first | (refine wpList_load_row rfl 30 _ rfl _ rfl _ _ (0, 0) _ k2 Try.underlying30 rfl (by kernel_rfl) ?_) | (refine wpList_store_row rfl 30 _ _ rfl _ (csC W B C cW b c st.ns.length st.hs.length st.ts.length).toArray rfl rfl _ _ k1 (by kernel_rfl) (by kernel_rfl) (by kernel_rfl) ?_))
      have r1 := k1.row (csC W B C cW b c st.ns.length st.hs.length st.ts.length)
      refine bodyPost_ret (v := .agg (csC W B C cW b c st.ns.length st.hs.length st.ts.length).toArray) (results_cell_row rfl _ _ _ _ _ (0, 0) _ rfl r1 Try.underlying30 rfl (by kernel_rfl)) rfl ⟨_, rfl, ⟨W, B, C, cW, b, c, rfl, own_rd (own_rowfar own (by omega) _), ?_, ?_⟩, setRow_below hb (by omega) _⟩
      · exact ((rB.below hb).more hb.size).rowFarN (fun hn ad e => by
          obtain ⟨ad', e', hb', _⟩ := rB hn
          rw [e] at e'; injection e' with e'; rw [e']; omega) _
      · exact ((rC.below hb).more hb.size).rowFarN (fun hn ad e => by
          obtain ⟨ad', e', hb', _⟩ := rC hn
          rw [e] at e'; injection e' with e'; rw [e']; omega) _
set_option maxRecDepth 100000 in
set_option maxHeartbeats 8000000 in
theorem law04_back_at (V : Value) (st : Ch) (w : World) (h1 : st.ns.length ≤ 1000) (h2 : st.hs.length ≤ 1000) (h3 : st.ts.length ≤ 1000) (h : CsAt w V st) : Calls Try.prog 17 #[V] w fun e w' => ∃ V', e = .returned V' ∧ CsAt w' V' st ∧ Below w.heap.size w w' := by
  obtain ⟨A, B, C, a, b, c, rfl, rA, rB, rC⟩ := h
  obtain ⟨iT, hi, hz0, hz1, hz2⟩ := info_parts rnode_info
  go_enter Try.func17, Try.ntmps17
  go_upto_region 3 with fail
  generalize hV : World.alloc (World.alloc (World.alloc w _) _) _ = w1
  have hb1 : Below w.heap.size w w1 := by subst hV; (repeat (first | with_reducible exact Below.refl _ _ | with_reducible assumption | with_reducible refine Below.drew ?_ | with_reducible refine Below.drewN ?_ _ | with_reducible refine Below.alloc1 ?_ _ | with_reducible refine Below.setCell1 ?_ (by first | omega | (simp; done) | (simp; omega)) _ | with_reducible refine Below.step ?_ (by with_reducible assumption)))
  have k0 : Bk w1 w.heap.size 30 (csC A B C a b c st.ns.length st.hs.length st.ts.length) := by subst hV; (repeat (first | with_reducible exact Bk.new' _ _ _ _ (by simp; done) | with_reducible assumption | with_reducible refine Bk.alloc ?_ _ | with_reducible refine Bk.drew ?_ | with_reducible refine Bk.drewN ?_ _ | with_reducible refine Bk.step ?_ (by with_reducible assumption) | with_reducible refine Bk.far ?_ (by first | omega | (simp; done) | (simp; omega)) _))
  have k1 : Bk w1 (w.heap.size + 1) 25 (csC none none none 0 0 0 0 0 0) := by subst hV; exact (((Bk.new' (w.alloc (.cells (csC A B C a b c st.ns.length st.hs.length st.ts.length).toArray 30)) 25 (csC none none none 0 0 0 0 0 0) (w.heap.size + 1) (by simp)).alloc _))
  have k2 : Bk w1 (w.heap.size + 1 + 1) 25 (csC none B C 0 b c 0 st.hs.length st.ts.length) := by subst hV; exact Bk.new' _ _ _ _ (by simp)
  clear hV
  have l2 := k2.lt
  go_loopw [4] (fun i wr => ∃ k : Nat, k ≤ st.ns.length ∧ i = .int .i64 k ∧ (∃ W cW, Bk wr (w.heap.size + 1 + 1) 25 (csC W B C cW b c k st.hs.length st.ts.length) ∧ wr.ownsRow w1.heap.size 64 3 (.slice W k cW) k (nds (st.ns.take k))) ∧ Bk wr w.heap.size 30 (csC A B C a b c st.ns.length st.hs.length st.ts.length) ∧ Bk wr (w.heap.size + 1) 25 (csC none none none 0 0 0 0 0 0) ∧ w1.heap.size ≤ wr.heap.size ∧ Below w.heap.size w wr) (fun i _ => st.ns.length - (intOf i).toNat)
  case atStart => exact ⟨0, Nat.zero_le _, rfl, ⟨none, 0, k2, World.ownsRow_nil _ _ _ _⟩, k0, k1, Nat.le_refl _, hb1⟩
  case round =>
    clear k0 k1 k2 hb1
    generalize w1.heap.size = bW at *
    obtain ⟨k, hk, rfl, ⟨W, cW, k2, own⟩, k0, k1, hbw, hb⟩ := hrel
    have k0_0 := k0.cell 0; have k0_f0 := k0.frozen 0; have k0_1 := k0.cell 1; have k0_f1 := k0.frozen 1; have k0_2 := k0.cell 2; have k0_f2 := k0.frozen 2; simp only [List.set_cons_zero, List.set_cons_succ, List.getElem?_cons_zero, List.getElem?_cons_succ] at k0_0 k0_1 k0_2; have lt_k0 := k0.lt; have k1_0 := k1.cell 0; have k1_f0 := k1.frozen 0; have k1_1 := k1.cell 1; have k1_f1 := k1.frozen 1; have k1_2 := k1.cell 2; have k1_f2 := k1.frozen 2; simp only [List.set_cons_zero, List.set_cons_succ, List.getElem?_cons_zero, List.getElem?_cons_succ] at k1_0 k1_1 k1_2; have lt_k1 := k1.lt; have k2_0 := k2.cell 0; have k2_f0 := k2.frozen 0; have k2_1 := k2.cell 1; have k2_f1 := k2.frozen 1; have k2_2 := k2.cell 2; have k2_f2 := k2.frozen 2; simp only [List.set_cons_zero, List.set_cons_succ, List.getElem?_cons_zero, List.getElem?_cons_succ] at k2_0 k2_1 k2_2; have lt_k2 := k2.lt
    by_cases hlt : k < st.ns.length
    · have hki : (k : Int) < (st.ns.length : Int) := by omega
      obtain ⟨ad, rfl, hadb, c1, c2, c3⟩ := (rA.below hb).nd hlt
      have HSN := hide (show nds (st.ns.take (k + 1)) = nds (st.ns.take k) ++ ndC st.ns[k] by rw [take_snocL st.ns k hlt, nds_app]; simp [nds])
      generalize st.ns[k] = x at *
      have cq1 : ∀ d os, (grow (redrawn wr d) os).cell? (ad.add (k * 3)) = some (.int .i64 x.l) := fun d os => ((below_regrown wr d os).cell (by rw [add_block]; have := hb.size; omega)).trans c1
      have cq2 : ∀ d os, (grow (redrawn wr d) os).cell? ⟨(ad.add (k * 3)).block, (ad.add (k * 3)).off + 1, none⟩ = some (.int .i64 x.n) := fun d os => ((below_regrown wr d os).cell (by dsimp only; rw [add_block]; have := hb.size; omega)).trans c2
      have cq3 : ∀ d os, (grow (redrawn wr d) os).cell? ⟨(ad.add (k * 3)).block, (ad.add (k * 3)).off + 2, none⟩ = some (.int .i64 x.p) := fun d os => ((below_regrown wr d os).cell (by dsimp only; rw [add_block]; have := hb.size; omega)).trans c3
      go_wp2_with fail
      refine wp_region_mt 8 [(7, RowAt 1 (ndC x))] (by kernel_rfl) (by kernel_rfl) (by kernel_rfl) (by kernel_rfl) (sts_cons (sts_row _ _) sts_nil) (fun kq => ?_); (try dsimp only [List.append, List.take])
      (repeat (refine wpM_via (by kernel_rfl) ?_; go_big_quiet_step (fail); refine wpQuiet_nil ?_))
      (refine wpM_spec _ (RowAt 1 (ndC x)) (by kernel_rfl) (by kernel_rfl) rfl (later_some _) ?_ ?_; (focus (intro x hx hk; obtain ⟨px, rfl⟩ := hx; go_simp; (first | with_reducible refine mUpon_enter ?_ | with_reducible refine mUpon_value ?_); exact row_new (by simp [Go.Sort.grow]) rfl)); intro v hv K hK; obtain ⟨A2, c2', rfl⟩ := hv; go_big_quiet_op; refine hK _ ?_; clear hK K)
      refine wpM_nil ?_; intro wq hwq hfq; have hbq := below_of_class hwq; clear hwq kq; (try dsimp only [List.drop])
      have hrow := row_of hfq.1
      obtain ⟨ad2, rfl, hab, _⟩ := hrow (by simp)
      have hsq := hbq.size
      have own2 := own_below own hbq (Nat.le_refl _)
      replace hb : Below w.heap.size w wq := hb.step hbq
      replace k0 := k0.step hbq; (try clear k0_0 k0_f0 k0_1 k0_f1 k0_2 k0_f2); have k0_0 := k0.cell 0; have k0_f0 := k0.frozen 0; have k0_1 := k0.cell 1; have k0_f1 := k0.frozen 1; have k0_2 := k0.cell 2; have k0_f2 := k0.frozen 2; simp only [List.set_cons_zero, List.set_cons_succ, List.getElem?_cons_zero, List.getElem?_cons_succ] at k0_0 k0_1 k0_2; (try clear lt_k0); have lt_k0 := k0.lt; replace k1 := k1.step hbq; (try clear k1_0 k1_f0 k1_1 k1_f1 k1_2 k1_f2); have k1_0 := k1.cell 0; have k1_f0 := k1.frozen 0; have k1_1 := k1.cell 1; have k1_f1 := k1.frozen 1; have k1_2 := k1.cell 2; have k1_f2 := k1.frozen 2; simp only [List.set_cons_zero, List.set_cons_succ, List.getElem?_cons_zero, List.getElem?_cons_succ] at k1_0 k1_1 k1_2; (try clear lt_k1); have lt_k1 := k1.lt; replace k2 := k2.step hbq; (try clear k2_0 k2_f0 k2_1 k2_f1 k2_2 k2_f2); have k2_0 := k2.cell 0; have k2_f0 := k2.frozen 0; have k2_1 := k2.cell 1; have k2_f1 := k2.frozen 1; have k2_2 := k2.cell 2; have k2_f2 := k2.frozen 2; simp only [List.set_cons_zero, List.set_cons_succ, List.getElem?_cons_zero, List.getElem?_cons_succ] at k2_0 k2_1 k2_2; (try clear lt_k2); have lt_k2 := k2.lt
      clear hfq hbq own cq1 cq2 cq3 c1 c2 c3
      refine wpList_app2 rfl (.tmp 18) (.tmp 24) 22 rfl bW 64 iT _ 3 24 Try.underlying22 hi hz0 hz1 hz2 rfl (by omega) W k cW (nds (st.ns.take k)) rfl own2 ad2 1 c2' (ndC x) rfl rfl (rd_hn hrow) (by simp [Value.oneCell']) (by unfold maxLen; omega) (by omega) (by omega) (by omega) ?_
      intro g cap w7 own7 hb7 hgr7
      replace k0 := k0.below hb7 (by omega)
      replace k1 := k1.below hb7 (by omega)
      replace k2 := k2.below hb7 (by omega)
      (try clear k0_0 k0_f0 k0_1 k0_f1 k0_2 k0_f2 lt_k0) ; (try clear k1_0 k1_f0 k1_1 k1_f1 k1_2 k1_f2 lt_k1) ; (try clear k2_0 k2_f0 k2_1 k2_f1 k2_2 k2_f2 lt_k2)
      have hs7 := hb7.size
      replace hb : Below w.heap.size w w7 := hb.trans (hb7.mono (by omega))
      have k2_0 := k2.cell 0; have k2_f0 := k2.frozen 0; have k2_1 := k2.cell 1; have k2_f1 := k2.frozen 1; have k2_2 := k2.cell 2; have k2_f2 := k2.frozen 2; simp only [List.set_cons_zero, List.set_cons_succ, List.getElem?_cons_zero, List.getElem?_cons_succ] at k2_0 k2_1 k2_2; have lt_k2 := k2.lt
      go_wp2
      go_roundw
      case rel =>
        refine ⟨k + 1, by omega, by rw [Int.natCast_add]; rfl, ⟨some ⟨g, 0, none⟩, cap, k2.set_ 0 _, ?_⟩, k0.far (by dsimp only; omega) _, k1.far (by dsimp only; omega) _, by simp [World.setCell]; omega, hb.setCell (by dsimp only; omega) _⟩
        rw [HSN.out]; exact own_far own7 (by dsimp only; omega) _
      case measure => simp [intOf]; omega
    · have hke : k = st.ns.length := by omega
      subst hke
      rw [List.take_length] at own
      (try clear k1_0 k1_f0 k1_1 k1_f1 k1_2 k1_f2 lt_k1) ; (try clear k2_0 k2_f0 k2_1 k2_f1 k2_2 k2_f2 lt_k2)
      have ll := k2.lt
      go_wp2_with (first | (refine wpList_load_row rfl 25 _ rfl _ rfl _ _ (0, 0) _ k2 Try.underlying25 rfl (by kernel_rfl) ?_) | (refine wpList_store_row rfl 25 _ _ rfl _ (csC W B C cW b c st.ns.length st.hs.length st.ts.length).toArray rfl rfl _ _ k1 (by kernel_rfl) (by kernel_rfl) (by kernel_rfl) ?_))
      have r1 := k1.row (csC W B C cW b c st.ns.length st.hs.length st.ts.length)
      refine bodyPost_ret (v := .agg (csC W B C cW b c st.ns.length st.hs.length st.ts.length).toArray) (results_cell_row rfl _ _ _ _ _ (0, 0) _ rfl r1 Try.underlying25 rfl (by kernel_rfl)) rfl ⟨_, rfl, ⟨W, B, C, cW, b, c, rfl, own_rd (own_rowfar own (by omega) _), ?_, ?_⟩, setRow_below hb (by omega) _⟩
      · exact ((rB.below hb).more hb.size).rowFarN (fun hn ad e => by
          obtain ⟨ad', e', hb', _⟩ := rB hn
          rw [e] at e'; injection e' with e'; rw [e']; omega) _
      · exact ((rC.below hb).more hb.size).rowFarN (fun hn ad e => by
          obtain ⟨ad', e', hb', _⟩ := rC hn
          rw [e] at e'; injection e' with e'; rw [e']; omega) _
set_option maxHeartbeats 4000000 in
theorem law04_few_at (V : Value) (st : Ch) (w : World) (h : CsAt w V st) : Calls Try.prog 7 #[V] w fun e w' => e = .returned (.bool (decide (st.ns.length ≤ 70) && decide (st.hs.length ≤ 20) && decide (st.ts.length ≤ 20))) ∧ Below w.heap.size w w' := by
  obtain ⟨A, B, C, a, b, c, rfl, rA, rB, rC⟩ := h
  by_cases g1 : st.ns.length ≤ 70
  · have i1 : (st.ns.length : Int) ≤ 70 := by omega
    by_cases g2 : st.hs.length ≤ 20
    · have i2 : (st.hs.length : Int) ≤ 20 := by omega
      by_cases g3 : st.ts.length ≤ 20
      · have i3 : (st.ts.length : Int) ≤ 20 := by omega
        go_enter Try.func7, Try.ntmps7
        go_wp2
        go_ret
        exact ⟨ret_bool (by first | (simp [g1, g2, g3]; done) | (simp [g1, g2, g3]; omega)), by (repeat (first | with_reducible exact Below.refl _ _ | with_reducible assumption | with_reducible refine Below.drew ?_ | with_reducible refine Below.drewN ?_ _ | with_reducible refine Below.alloc1 ?_ _ | with_reducible refine Below.setCell1 ?_ (by first | omega | (simp; done) | (simp; omega)) _ | with_reducible refine Below.step ?_ (by with_reducible assumption)))⟩
      · have i3 : (20 : Int) < (st.ts.length : Int) := by omega
        go_enter Try.func7, Try.ntmps7
        go_wp2
        go_ret
        exact ⟨ret_bool (by first | (simp [g1, g2, g3]; done) | (simp [g1, g2, g3]; omega)), by (repeat (first | with_reducible exact Below.refl _ _ | with_reducible assumption | with_reducible refine Below.drew ?_ | with_reducible refine Below.drewN ?_ _ | with_reducible refine Below.alloc1 ?_ _ | with_reducible refine Below.setCell1 ?_ (by first | omega | (simp; done) | (simp; omega)) _ | with_reducible refine Below.step ?_ (by with_reducible assumption)))⟩
    · have i2 : (20 : Int) < (st.hs.length : Int) := by omega
      go_enter Try.func7, Try.ntmps7
      go_wp2
      go_ret
      exact ⟨ret_bool (by first | (simp [g1, g2]; done) | (simp [g1, g2]; omega)), by (repeat (first | with_reducible exact Below.refl _ _ | with_reducible assumption | with_reducible refine Below.drew ?_ | with_reducible refine Below.drewN ?_ _ | with_reducible refine Below.alloc1 ?_ _ | with_reducible refine Below.setCell1 ?_ (by first | omega | (simp; done) | (simp; omega)) _ | with_reducible refine Below.step ?_ (by with_reducible assumption)))⟩
  · have i1 : (70 : Int) < (st.ns.length : Int) := by omega
    go_enter Try.func7, Try.ntmps7
    go_wp2
    go_ret
    exact ⟨ret_bool (by first | (simp [g1]; done) | (simp [g1]; omega)), by (repeat (first | with_reducible exact Below.refl _ _ | with_reducible assumption | with_reducible refine Below.drew ?_ | with_reducible refine Below.drewN ?_ _ | with_reducible refine Below.alloc1 ?_ _ | with_reducible refine Below.setCell1 ?_ (by first | omega | (simp; done) | (simp; omega)) _ | with_reducible refine Below.step ?_ (by with_reducible assumption)))⟩
end Go.Proofs.Ythicpjfdljgfpaa
