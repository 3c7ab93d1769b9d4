/- callboylaw03: own, back, few. -/
import Derived.Test.YtnmpighdkdffbaaRef03h
namespace Go.Proofs.Ytnmpighdkdffbaa
open Go.RowKit Go.Sort
set_option linter.unusedSimpArgs false
set_option linter.unusedVariables false

set_option maxRecDepth 100000 in
set_option maxHeartbeats 8000000 in
theorem own_fn_any (A B : Option Addr) (c d : Nat) (l : List Cl) (f : List Int) (w : World) (hl : l.length ≤ 1000) (hf : f.length ≤ 1000) (hd : f.length ≤ d) (ha : Rd w w.heap.size A (cls l)) (hb : Rd w w.heap.size B (ints f)) :
    Calls Try.prog 9 #[stV A l.length c B f.length d] w fun e w' => ∃ A' c', e = .returned (stV A' l.length c' B f.length d) ∧ Rd w' w'.heap.size A' (cls l) ∧ Below w.heap.size w w' := by
  obtain ⟨iC, hiC, hC0, hC1, hC2⟩ := info_parts cell_info
  have hlen := cls_length l
  go_enter Try.func9, Try.ntmps9
  go_wp2_with fail
  generalize hV : World.alloc (World.alloc (World.alloc w _) _) _ = w1
  have hb1 : Below w.heap.size w w1 := by subst hV; (repeat (first | with_reducible exact Below.refl _ _ | with_reducible assumption | with_reducible refine Below.drew ?_ | with_reducible refine Below.drewN ?_ _ | with_reducible refine Below.alloc1 ?_ _ | with_reducible refine Below.setCell1 ?_ (by first | omega | (simp; done) | (simp; omega)) _ | with_reducible refine Below.step ?_ (by with_reducible assumption)))
  have k0 : Bk w1 w.heap.size 25 (stC A l.length c B f.length d) := by subst hV; (repeat (first | with_reducible exact Bk.new' _ _ _ _ (by simp; done) | with_reducible assumption | with_reducible refine Bk.alloc ?_ _ | with_reducible refine Bk.drew ?_ | with_reducible refine Bk.drewN ?_ _ | with_reducible refine Bk.step ?_ (by with_reducible assumption) | with_reducible refine Bk.far ?_ (by first | omega | (simp; done) | (simp; omega)) _))
  have k1 : Bk w1 (w.heap.size + 1) 30 (stC none 0 0 none 0 0) := by subst hV; (repeat (first | with_reducible exact Bk.new' _ _ _ _ (by simp; done) | with_reducible assumption | with_reducible refine Bk.alloc ?_ _ | with_reducible refine Bk.drew ?_ | with_reducible refine Bk.drewN ?_ _ | with_reducible refine Bk.step ?_ (by with_reducible assumption) | with_reducible refine Bk.far ?_ (by first | omega | (simp; done) | (simp; omega)) _))
  have k2 : Bk w1 (w.heap.size + 2) 30 (stC none 0 0 B f.length d) := by subst hV; (repeat (first | with_reducible exact Bk.new' _ _ _ _ (by simp; done) | with_reducible assumption | with_reducible refine Bk.alloc ?_ _ | with_reducible refine Bk.drew ?_ | with_reducible refine Bk.drewN ?_ _ | with_reducible refine Bk.step ?_ (by with_reducible assumption) | with_reducible refine Bk.far ?_ (by first | omega | (simp; done) | (simp; omega)) _))
  clear hV
  go_loopw [4] (fun i wr => ∃ (k : Nat) (A' : Option Addr) (c' : Nat), k ≤ l.length ∧ i = .int .i64 k ∧ wr.ownsRow (w.heap.size + 3) 63 3 (.slice A' k c') k (cls (l.take k)) ∧ Bk wr w.heap.size 25 (stC A l.length c B f.length d) ∧ Bk wr (w.heap.size + 1) 30 (stC none 0 0 none 0 0) ∧ Bk wr (w.heap.size + 2) 30 (stC A' k c' B f.length d) ∧ Below w.heap.size w wr) (fun i _ => l.length - (intOf i).toNat)
  case atStart => exact ⟨0, none, 0, Nat.zero_le _, rfl, ⟨rfl, .inl ⟨rfl, rfl⟩⟩, k0, k1, k2, hb1⟩
  case round =>
    obtain ⟨k, A', c', hk, rfl, oA, j0, j1, j2, hbr⟩ := hrel
    clear k0 k1 k2 hb1
    have j0_0 := j0.cell 0; have j0_f0 := j0.frozen 0; have j0_1 := j0.cell 1; have j0_f1 := j0.frozen 1; simp only [List.set_cons_zero, List.set_cons_succ, List.getElem?_cons_zero, List.getElem?_cons_succ] at j0_0 j0_1; have lt_j0 := j0.lt; have j1_0 := j1.cell 0; have j1_f0 := j1.frozen 0; have j1_1 := j1.cell 1; have j1_f1 := j1.frozen 1; simp only [List.set_cons_zero, List.set_cons_succ, List.getElem?_cons_zero, List.getElem?_cons_succ] at j1_0 j1_1; have lt_j1 := j1.lt; have j2_0 := j2.cell 0; have j2_f0 := j2.frozen 0; have j2_1 := j2.cell 1; have j2_f1 := j2.frozen 1; simp only [List.set_cons_zero, List.set_cons_succ, List.getElem?_cons_zero, List.getElem?_cons_succ] at j2_0 j2_1; have lt_j2 := j2.lt
    by_cases hlt : k < l.length
    · obtain ⟨ad, rfl, hadb, c1, c2, c3⟩ := (ha.below hbr).cl hlt
      have hsz0 := hbr.size
      have hadj : (ad.add (k * 3)).block < wr.heap.size := by rw [add_block]; omega
      have g1 : ∀ (d : Nat) (os : Array Obj), (Go.Sort.grow (redrawn wr d) os).cell? (ad.add (k * 3)) = some (.int .i64 l[k].gen) := fun d os => ((below_regrown wr d os).cell hadj).trans c1
      have g2 : ∀ (d : Nat) (os : Array Obj), (Go.Sort.grow (redrawn wr d) os).cell? { block := (ad.add (k * 3)).block, off := (ad.add (k * 3)).off + 1 } = some (.bool l[k].live) := fun d os => ((below_regrown wr d os).cell (p := { block := (ad.add (k * 3)).block, off := (ad.add (k * 3)).off + 1 }) hadj).trans c2
      have g3 : ∀ (d : Nat) (os : Array Obj), (Go.Sort.grow (redrawn wr d) os).cell? { block := (ad.add (k * 3)).block, off := (ad.add (k * 3)).off + 2 } = some (.int .i64 l[k].val) := fun d os => ((below_regrown wr d os).cell (p := { block := (ad.add (k * 3)).block, off := (ad.add (k * 3)).off + 2 }) hadj).trans c3
      have i1 : (k : Int) < (l.length : Int) := by omega
      have hsn : cls (l.take (k + 1)) = cls (l.take k) ++ clC l[k] := by rw [take_snocL l k hlt]; simp only [cls, List.flatMap_append, List.flatMap_cons, List.flatMap_nil, List.append_nil]
      have HS := hide hsn
      clear hsn c1 c2 c3
      go_wp2_with fail
      refine wp_region_mt 8 [(7, RowAt 1 (clC l[k]))] (by kernel_rfl) (by kernel_rfl) (by kernel_rfl) (by kernel_rfl) (sts_cons (sts_row _ _) sts_nil) (fun kq => ?_); (try dsimp only [List.append, List.take])
      (repeat (refine wpM_via (by kernel_rfl) ?_; go_big_quiet_step (fail); refine wpQuiet_nil ?_))
      (refine wpM_spec _ (RowAt 1 (clC l[k])) (by kernel_rfl) (by kernel_rfl) rfl (later_some _) ?_ ?_; (focus (intro x hx hk; obtain ⟨px, rfl⟩ := hx; go_simp; (first | with_reducible refine mUpon_enter ?_ | with_reducible refine mUpon_value ?_); exact row_new (by simp [Go.Sort.grow]) rfl)); intro v hv K hK; obtain ⟨A2, c2, rfl⟩ := hv; go_big_quiet_op; refine hK _ ?_; clear hK K)
      (repeat (refine wpM_via (by kernel_rfl) ?_; go_big_quiet_step (fail); refine wpQuiet_nil ?_))
      refine wpM_nil ?_; intro wq hwq hfq; have hbq := below_of_class hwq; clear hwq kq; (try dsimp only [List.drop])
      have hrow := row_of hfq.1
      obtain ⟨ad2, rfl, hab, _⟩ := hrow (by simp)
      replace oA := own_below oA hbq (Nat.le_refl _)
      have hbs : Below w.heap.size w wq := hbr.step hbq
      have hszq := hbq.size
      replace j0 := j0.step hbq; (try clear j0_0 j0_f0 j0_1 j0_f1); have j0_0 := j0.cell 0; have j0_f0 := j0.frozen 0; have j0_1 := j0.cell 1; have j0_f1 := j0.frozen 1; simp only [List.set_cons_zero, List.set_cons_succ, List.getElem?_cons_zero, List.getElem?_cons_succ] at j0_0 j0_1; (try clear lt_j0); have lt_j0 := j0.lt; replace j1 := j1.step hbq; (try clear j1_0 j1_f0 j1_1 j1_f1); have j1_0 := j1.cell 0; have j1_f0 := j1.frozen 0; have j1_1 := j1.cell 1; have j1_f1 := j1.frozen 1; simp only [List.set_cons_zero, List.set_cons_succ, List.getElem?_cons_zero, List.getElem?_cons_succ] at j1_0 j1_1; (try clear lt_j1); have lt_j1 := j1.lt; replace j2 := j2.step hbq; (try clear j2_0 j2_f0 j2_1 j2_f1); have j2_0 := j2.cell 0; have j2_f0 := j2.frozen 0; have j2_1 := j2.cell 1; have j2_f1 := j2.frozen 1; simp only [List.set_cons_zero, List.set_cons_succ, List.getElem?_cons_zero, List.getElem?_cons_succ] at j2_0 j2_1; (try clear lt_j2); have lt_j2 := j2.lt
      clear hfq hbq g1 g2 g3
      have hA0 := own_ne oA j0 (by decide)
      have hA1 := own_ne oA j1 (by decide)
      have hA2 := own_ne oA j2 (by decide)
      go_wp2_with (at_builtin; refine wpList_app2 rfl (.tmp 16) (.tmp 22) 28 rfl (w.heap.size + 3) 63 iC _ 3 24 Try.underlying28 hiC hC0 hC1 hC2 rfl (by omega) A' k c' (cls (l.take k)) rfl oA ad2 1 c2 (clC l[k]) rfl rfl (rd_hnews hrow) (by simp [Value.oneCell']) (by unfold maxLen; omega) (by omega) (by omega) (by omega) ?_; intro g cap w7 own7 hb7 hgr7; (have m2 := j2.kept hgr7 hA2); have m2_0 := m2.cell 0; have m2_f0 := m2.frozen 0; have m2_1 := m2.cell 1; have m2_f1 := m2.frozen 1; simp only [List.set_cons_zero, List.set_cons_succ, List.getElem?_cons_zero, List.getElem?_cons_succ] at m2_0 m2_1; have lt7 := m2.lt)
      have m0 := j0.kept hgr7 hA0
      have m1 := j1.kept hgr7 hA1
      have hb8 : Below w.heap.size w w7 := hbs.trans (hb7.mono (by omega))
      go_roundw
      case rel =>
        refine ⟨k + 1, some ⟨g, 0, none⟩, cap, by omega, by go_num, ?_, m0.far (by dsimp only; omega) _, m1.far (by dsimp only; omega) _, m2.set_ 0 _, hb8.setCell (by dsimp only; omega) _⟩
        rw [HS.out]
        exact own_far own7 (by dsimp only; omega) _
      case measure => simp [intOf]; omega
    · have hkn : k = l.length := by omega
      subst hkn
      rw [List.take_length] at oA
      go_wp2_with fail
      (try clear j0_0 j0_f0 j0_1 j0_f1 lt_j0) ; (try clear j1_0 j1_f0 j1_1 j1_f1 lt_j1) ; (try clear j2_0 j2_f0 j2_1 j2_f1 lt_j2)
      generalize hV : World.setCell (World.setCell wr _ _) _ _ = w4
      have hb4 : Below w.heap.size w w4 := by subst hV; exact (hbr.setCell (by dsimp only; omega) _).setCell (by dsimp only; omega) _
      replace j1 : Bk w4 (w.heap.size + 1) 30 (stC A' l.length c' B f.length d) := by subst hV; exact (j1.set_ 0 _).set_ 1 _
      replace oA : w4.ownsRow (w.heap.size + 3) 63 3 (.slice A' l.length c') l.length (cls l) := by subst hV; refine own_far (own_far oA ?_ _) ?_ _ <;> (dsimp only; omega)
      clear hV
      have j1_0 := j1.cell 0; have j1_f0 := j1.frozen 0; have j1_1 := j1.cell 1; have j1_f1 := j1.frozen 1; simp only [List.set_cons_zero, List.set_cons_succ, List.getElem?_cons_zero, List.getElem?_cons_succ] at j1_0 j1_1; have lt_j1 := j1.lt
      exact bodyPost_ret (v := stV A' l.length c' B f.length d) (by simp only [results, Try.results9]; go_simp) rfl ⟨A', c', rfl, own_rd oA, hb4⟩

set_option maxRecDepth 100000 in
set_option maxHeartbeats 8000000 in
theorem back_fn_any (A B : Option Addr) (c d : Nat) (l : List Cl) (f : List Int) (w : World) (hl : l.length ≤ 1000) (hf : f.length ≤ 1000) (hd : f.length ≤ d) (ha : Rd w w.heap.size A (cls l)) (hb : Rd w w.heap.size B (ints f)) :
    Calls Try.prog 17 #[stV A l.length c B f.length d] w fun e w' => ∃ A' c', e = .returned (stV A' l.length c' B f.length d) ∧ Rd w' w'.heap.size A' (cls l) ∧ Below w.heap.size w w' := by
  obtain ⟨iC, hiC, hC0, hC1, hC2⟩ := info_parts rcell_info
  have hlen := cls_length l
  go_enter Try.func17, Try.ntmps17
  go_wp2_with fail
  generalize hV : World.alloc (World.alloc (World.alloc w _) _) _ = w1
  have hb1 : Below w.heap.size w w1 := by subst hV; (repeat (first | with_reducible exact Below.refl _ _ | with_reducible assumption | with_reducible refine Below.drew ?_ | with_reducible refine Below.drewN ?_ _ | with_reducible refine Below.alloc1 ?_ _ | with_reducible refine Below.setCell1 ?_ (by first | omega | (simp; done) | (simp; omega)) _ | with_reducible refine Below.step ?_ (by with_reducible assumption)))
  have k0 : Bk w1 w.heap.size 30 (stC A l.length c B f.length d) := by subst hV; (repeat (first | with_reducible exact Bk.new' _ _ _ _ (by simp; done) | with_reducible assumption | with_reducible refine Bk.alloc ?_ _ | with_reducible refine Bk.drew ?_ | with_reducible refine Bk.drewN ?_ _ | with_reducible refine Bk.step ?_ (by with_reducible assumption) | with_reducible refine Bk.far ?_ (by first | omega | (simp; done) | (simp; omega)) _))
  have k1 : Bk w1 (w.heap.size + 1) 25 (stC none 0 0 none 0 0) := by subst hV; (repeat (first | with_reducible exact Bk.new' _ _ _ _ (by simp; done) | with_reducible assumption | with_reducible refine Bk.alloc ?_ _ | with_reducible refine Bk.drew ?_ | with_reducible refine Bk.drewN ?_ _ | with_reducible refine Bk.step ?_ (by with_reducible assumption) | with_reducible refine Bk.far ?_ (by first | omega | (simp; done) | (simp; omega)) _))
  have k2 : Bk w1 (w.heap.size + 2) 25 (stC none 0 0 B f.length d) := by subst hV; (repeat (first | with_reducible exact Bk.new' _ _ _ _ (by simp; done) | with_reducible assumption | with_reducible refine Bk.alloc ?_ _ | with_reducible refine Bk.drew ?_ | with_reducible refine Bk.drewN ?_ _ | with_reducible refine Bk.step ?_ (by with_reducible assumption) | with_reducible refine Bk.far ?_ (by first | omega | (simp; done) | (simp; omega)) _))
  clear hV
  go_loopw [4] (fun i wr => ∃ (k : Nat) (A' : Option Addr) (c' : Nat), k ≤ l.length ∧ i = .int .i64 k ∧ wr.ownsRow (w.heap.size + 3) 64 3 (.slice A' k c') k (cls (l.take k)) ∧ Bk wr w.heap.size 30 (stC A l.length c B f.length d) ∧ Bk wr (w.heap.size + 1) 25 (stC none 0 0 none 0 0) ∧ Bk wr (w.heap.size + 2) 25 (stC A' k c' B f.length d) ∧ Below w.heap.size w wr) (fun i _ => l.length - (intOf i).toNat)
  case atStart => exact ⟨0, none, 0, Nat.zero_le _, rfl, ⟨rfl, .inl ⟨rfl, rfl⟩⟩, k0, k1, k2, hb1⟩
  case round =>
    obtain ⟨k, A', c', hk, rfl, oA, j0, j1, j2, hbr⟩ := hrel
    clear k0 k1 k2 hb1
    have j0_0 := j0.cell 0; have j0_f0 := j0.frozen 0; have j0_1 := j0.cell 1; have j0_f1 := j0.frozen 1; simp only [List.set_cons_zero, List.set_cons_succ, List.getElem?_cons_zero, List.getElem?_cons_succ] at j0_0 j0_1; have lt_j0 := j0.lt; have j1_0 := j1.cell 0; have j1_f0 := j1.frozen 0; have j1_1 := j1.cell 1; have j1_f1 := j1.frozen 1; simp only [List.set_cons_zero, List.set_cons_succ, List.getElem?_cons_zero, List.getElem?_cons_succ] at j1_0 j1_1; have lt_j1 := j1.lt; have j2_0 := j2.cell 0; have j2_f0 := j2.frozen 0; have j2_1 := j2.cell 1; have j2_f1 := j2.frozen 1; simp only [List.set_cons_zero, List.set_cons_succ, List.getElem?_cons_zero, List.getElem?_cons_succ] at j2_0 j2_1; have lt_j2 := j2.lt
    by_cases hlt : k < l.length
    · obtain ⟨ad, rfl, hadb, c1, c2, c3⟩ := (ha.below hbr).cl hlt
      have hsz0 := hbr.size
      have hadj : (ad.add (k * 3)).block < wr.heap.size := by rw [add_block]; omega
      have g1 : ∀ (d : Nat) (os : Array Obj), (Go.Sort.grow (redrawn wr d) os).cell? (ad.add (k * 3)) = some (.int .i64 l[k].gen) := fun d os => ((below_regrown wr d os).cell hadj).trans c1
      have g2 : ∀ (d : Nat) (os : Array Obj), (Go.Sort.grow (redrawn wr d) os).cell? { block := (ad.add (k * 3)).block, off := (ad.add (k * 3)).off + 1 } = some (.bool l[k].live) := fun d os => ((below_regrown wr d os).cell (p := { block := (ad.add (k * 3)).block, off := (ad.add (k * 3)).off + 1 }) hadj).trans c2
      have g3 : ∀ (d : Nat) (os : Array Obj), (Go.Sort.grow (redrawn wr d) os).cell? { block := (ad.add (k * 3)).block, off := (ad.add (k * 3)).off + 2 } = some (.int .i64 l[k].val) := fun d os => ((below_regrown wr d os).cell (p := { block := (ad.add (k * 3)).block, off := (ad.add (k * 3)).off + 2 }) hadj).trans c3
      have i1 : (k : Int) < (l.length : Int) := by omega
      have hsn : cls (l.take (k + 1)) = cls (l.take k) ++ clC l[k] := by rw [take_snocL l k hlt]; simp only [cls, List.flatMap_append, List.flatMap_cons, List.flatMap_nil, List.append_nil]
      have HS := hide hsn
      clear hsn c1 c2 c3
      go_wp2_with fail
      refine wp_region_mt 8 [(7, RowAt 1 (clC l[k]))] (by kernel_rfl) (by kernel_rfl) (by kernel_rfl) (by kernel_rfl) (sts_cons (sts_row _ _) sts_nil) (fun kq => ?_); (try dsimp only [List.append, List.take])
      (repeat (refine wpM_via (by kernel_rfl) ?_; go_big_quiet_step (fail); refine wpQuiet_nil ?_))
      (refine wpM_spec _ (RowAt 1 (clC l[k])) (by kernel_rfl) (by kernel_rfl) rfl (later_some _) ?_ ?_; (focus (intro x hx hk; obtain ⟨px, rfl⟩ := hx; go_simp; (first | with_reducible refine mUpon_enter ?_ | with_reducible refine mUpon_value ?_); exact row_new (by simp [Go.Sort.grow]) rfl)); intro v hv K hK; obtain ⟨A2, c2, rfl⟩ := hv; go_big_quiet_op; refine hK _ ?_; clear hK K)
      (repeat (refine wpM_via (by kernel_rfl) ?_; go_big_quiet_step (fail); refine wpQuiet_nil ?_))
      refine wpM_nil ?_; intro wq hwq hfq; have hbq := below_of_class hwq; clear hwq kq; (try dsimp only [List.drop])
      have hrow := row_of hfq.1
      obtain ⟨ad2, rfl, hab, _⟩ := hrow (by simp)
      replace oA := own_below oA hbq (Nat.le_refl _)
      have hbs : Below w.heap.size w wq := hbr.step hbq
      have hszq := hbq.size
      replace j0 := j0.step hbq; (try clear j0_0 j0_f0 j0_1 j0_f1); have j0_0 := j0.cell 0; have j0_f0 := j0.frozen 0; have j0_1 := j0.cell 1; have j0_f1 := j0.frozen 1; simp only [List.set_cons_zero, List.set_cons_succ, List.getElem?_cons_zero, List.getElem?_cons_succ] at j0_0 j0_1; (try clear lt_j0); have lt_j0 := j0.lt; replace j1 := j1.step hbq; (try clear j1_0 j1_f0 j1_1 j1_f1); have j1_0 := j1.cell 0; have j1_f0 := j1.frozen 0; have j1_1 := j1.cell 1; have j1_f1 := j1.frozen 1; simp only [List.set_cons_zero, List.set_cons_succ, List.getElem?_cons_zero, List.getElem?_cons_succ] at j1_0 j1_1; (try clear lt_j1); have lt_j1 := j1.lt; replace j2 := j2.step hbq; (try clear j2_0 j2_f0 j2_1 j2_f1); have j2_0 := j2.cell 0; have j2_f0 := j2.frozen 0; have j2_1 := j2.cell 1; have j2_f1 := j2.frozen 1; simp only [List.set_cons_zero, List.set_cons_succ, List.getElem?_cons_zero, List.getElem?_cons_succ] at j2_0 j2_1; (try clear lt_j2); have lt_j2 := j2.lt
      clear hfq hbq g1 g2 g3
      have hA0 := own_ne oA j0 (by decide)
      have hA1 := own_ne oA j1 (by decide)
      have hA2 := own_ne oA j2 (by decide)
      go_wp2_with (at_builtin; refine wpList_app2 rfl (.tmp 16) (.tmp 22) 22 rfl (w.heap.size + 3) 64 iC _ 3 24 Try.underlying22 hiC hC0 hC1 hC2 rfl (by omega) A' k c' (cls (l.take k)) rfl oA ad2 1 c2 (clC l[k]) rfl rfl (rd_hnews hrow) (by simp [Value.oneCell']) (by unfold maxLen; omega) (by omega) (by omega) (by omega) ?_; intro g cap w7 own7 hb7 hgr7; (have m2 := j2.kept hgr7 hA2); have m2_0 := m2.cell 0; have m2_f0 := m2.frozen 0; have m2_1 := m2.cell 1; have m2_f1 := m2.frozen 1; simp only [List.set_cons_zero, List.set_cons_succ, List.getElem?_cons_zero, List.getElem?_cons_succ] at m2_0 m2_1; have lt7 := m2.lt)
      have m0 := j0.kept hgr7 hA0
      have m1 := j1.kept hgr7 hA1
      have hb8 : Below w.heap.size w w7 := hbs.trans (hb7.mono (by omega))
      go_roundw
      case rel =>
        refine ⟨k + 1, some ⟨g, 0, none⟩, cap, by omega, by go_num, ?_, m0.far (by dsimp only; omega) _, m1.far (by dsimp only; omega) _, m2.set_ 0 _, hb8.setCell (by dsimp only; omega) _⟩
        rw [HS.out]
        exact own_far own7 (by dsimp only; omega) _
      case measure => simp [intOf]; omega
    · have hkn : k = l.length := by omega
      subst hkn
      rw [List.take_length] at oA
      go_wp2_with fail
      (try clear j0_0 j0_f0 j0_1 j0_f1 lt_j0) ; (try clear j1_0 j1_f0 j1_1 j1_f1 lt_j1) ; (try clear j2_0 j2_f0 j2_1 j2_f1 lt_j2)
      generalize hV : World.setCell (World.setCell wr _ _) _ _ = w4
      have hb4 : Below w.heap.size w w4 := by subst hV; exact (hbr.setCell (by dsimp only; omega) _).setCell (by dsimp only; omega) _
      replace j1 : Bk w4 (w.heap.size + 1) 25 (stC A' l.length c' B f.length d) := by subst hV; exact (j1.set_ 0 _).set_ 1 _
      replace oA : w4.ownsRow (w.heap.size + 3) 64 3 (.slice A' l.length c') l.length (cls l) := by subst hV; refine own_far (own_far oA ?_ _) ?_ _ <;> (dsimp only; omega)
      clear hV
      have j1_0 := j1.cell 0; have j1_f0 := j1.frozen 0; have j1_1 := j1.cell 1; have j1_f1 := j1.frozen 1; simp only [List.set_cons_zero, List.set_cons_succ, List.getElem?_cons_zero, List.getElem?_cons_succ] at j1_0 j1_1; have lt_j1 := j1.lt
      exact bodyPost_ret (v := stV A' l.length c' B f.length d) (by simp only [results, Try.results17]; go_simp) rfl ⟨A', c', rfl, own_rd oA, hb4⟩

theorem few_any (A B : Option Addr) (c d : Nat) (n m : Nat) (w : World) (hl : n ≤ maxLen) (hf : m ≤ maxLen) :
    Calls Try.prog 7 #[stV A n c B m d] w fun e w' => e = .returned (.bool (decide (n ≤ 70) && decide (m ≤ 70))) ∧ Below w.heap.size w w' := by
  unfold maxLen at hl hf
  by_cases h1 : n ≤ 70
  · have d1 : decide (n ≤ 70) = true := by simp; omega
    have g1 : (n : Int) ≤ 70 := by omega
    by_cases h2 : m ≤ 70
    · have d2 : decide (m ≤ 70) = true := by simp; omega
      have g2 : (m : Int) ≤ 70 := by omega
      go_enter Try.func7, Try.ntmps7
      go_wp2
      go_ret
      exact ⟨(by first | rfl | (rw [d1, d2]; rfl) | simp [d1, d2]), by (repeat (first | with_reducible exact Below.refl _ _ | with_reducible assumption | with_reducible refine Below.drew ?_ | with_reducible refine Below.drewN ?_ _ | with_reducible refine Below.alloc1 ?_ _ | with_reducible refine Below.setCell1 ?_ (by first | omega | (simp; done) | (simp; omega)) _ | with_reducible refine Below.step ?_ (by with_reducible assumption)))⟩
    · have d2 : decide (m ≤ 70) = false := by simp; omega
      have g2 : (70 : Int) < m := by omega
      have e2 : decide ((m : Int) ≤ 70) = false := by simp; omega
      go_enter Try.func7, Try.ntmps7
      go_wp2
      go_ret
      exact ⟨(by first | rfl | (rw [d1, d2]; rfl) | simp [d1, d2]), by (repeat (first | with_reducible exact Below.refl _ _ | with_reducible assumption | with_reducible refine Below.drew ?_ | with_reducible refine Below.drewN ?_ _ | with_reducible refine Below.alloc1 ?_ _ | with_reducible refine Below.setCell1 ?_ (by first | omega | (simp; done) | (simp; omega)) _ | with_reducible refine Below.step ?_ (by with_reducible assumption)))⟩
  · have d1 : decide (n ≤ 70) = false := by simp; omega
    have g1 : (70 : Int) < n := by omega
    go_enter Try.func7, Try.ntmps7
    go_wp2
    go_ret
    exact ⟨(by first | rfl | (rw [d1]; rfl) | simp [d1]), by (repeat (first | with_reducible exact Below.refl _ _ | with_reducible assumption | with_reducible refine Below.drew ?_ | with_reducible refine Below.drewN ?_ _ | with_reducible refine Below.alloc1 ?_ _ | with_reducible refine Below.setCell1 ?_ (by first | omega | (simp; done) | (simp; omega)) _ | with_reducible refine Below.step ?_ (by with_reducible assumption)))⟩
end Go.Proofs.Ytnmpighdkdffbaa
