/- callboylaw30: own, probes, Back. -/
import Derived.Test.YtfgfkiifekeeaaaRb6
namespace Go.Proofs.Ytfgfkiifekeeaaa
open Go.RowKit Go.Shelf Go.Sort
set_option linter.unusedSimpArgs false
set_option linter.unusedVariables false

set_option maxRecDepth 100000 in
set_option maxHeartbeats 8000000 in
theorem law_own_any (A : Option Addr) (c : Nat) (l : List Pb) (a s : Int) (w : World) (hl : l.length ≤ 1000) (ha : Rd w w.heap.size A (pbs l)) :
    Calls Try.prog 9 #[bsV A l.length c a s] w (ForgetPost w ⟨l, a, s⟩) := by
  obtain ⟨iT, hi, hz0, hz1, hz2⟩ := info_parts pb_info
  go_enter Try.func9, Try.ntmps9
  go_wp2_with fail
  generalize hV : World.alloc (World.alloc (World.alloc w _) _) _ = w1
  have hb1 : Below w.heap.size w w1 := by subst hV; (repeat (first | with_reducible exact Below.refl _ _ | with_reducible assumption | with_reducible refine Below.drew ?_ | with_reducible refine Below.drewN ?_ _ | with_reducible refine Below.alloc1 ?_ _ | with_reducible refine Below.setCell1 ?_ (by first | omega | (simp; done) | (simp; omega)) _ | with_reducible refine Below.step ?_ (by with_reducible assumption)))
  have k0 : Bk w1 w.heap.size 24 (bsC A l.length c a s) := by subst hV; (repeat (first | with_reducible exact Bk.new' _ _ _ _ (by simp; done) | with_reducible assumption | with_reducible refine Bk.alloc ?_ _ | with_reducible refine Bk.drew ?_ | with_reducible refine Bk.drewN ?_ _ | with_reducible refine Bk.step ?_ (by with_reducible assumption) | with_reducible refine Bk.far ?_ (by first | omega | (simp; done) | (simp; omega)) _))
  have k1 : Bk w1 (w.heap.size + 1) 31 (bsC none 0 0 0 0) := by subst hV; exact (((Bk.new' (w.alloc (.cells (bsC A l.length c a s).toArray 24)) 31 (bsC none 0 0 0 0) (w.heap.size + 1) (by simp)).alloc _))
  have k2 : Bk w1 (w.heap.size + 1 + 1) 31 (bsC none 0 0 a s) := by subst hV; exact Bk.new' _ _ _ _ (by simp)
  clear hV
  have hsz1 : w1.heap.size = w1.heap.size := rfl
  have l2 := k2.lt
  go_loopw [4] (fun i wr => ∃ k : Nat, k ≤ l.length ∧ i = .int .i64 k ∧ (∃ W cW, Bk wr (w.heap.size + 1 + 1) 31 (bsC W k cW a s) ∧ wr.ownsRow w1.heap.size 60 2 (.slice W k cW) k (pbs (l.take k))) ∧ Bk wr w.heap.size 24 (bsC A l.length c a s) ∧ Bk wr (w.heap.size + 1) 31 (bsC none 0 0 0 0) ∧ w1.heap.size ≤ wr.heap.size ∧ Below w.heap.size w wr) (fun i _ => l.length - (intOf i).toNat)
  case atStart => exact ⟨0, Nat.zero_le _, rfl, ⟨none, 0, k2, ⟨by simp [pbs], .inl ⟨rfl, rfl⟩⟩⟩, k0, k1, Nat.le_refl _, hb1⟩
  case round =>
    clear k0 k1 k2 hb1 hsz1
    generalize w1.heap.size = bW at *
    obtain ⟨k, hk, rfl, ⟨W, cW, k2, own⟩, k0, k1, hbw, hb⟩ := hrel
    have k0_0 := k0.cell 0; have k0_f0 := k0.frozen 0; have k0_1 := k0.cell 1; have k0_f1 := k0.frozen 1; have k0_2 := k0.cell 2; have k0_f2 := k0.frozen 2; simp only [List.set_cons_zero, List.set_cons_succ, List.getElem?_cons_zero, List.getElem?_cons_succ] at k0_0 k0_1 k0_2; have lt_k0 := k0.lt; have k1_0 := k1.cell 0; have k1_f0 := k1.frozen 0; have k1_1 := k1.cell 1; have k1_f1 := k1.frozen 1; have k1_2 := k1.cell 2; have k1_f2 := k1.frozen 2; simp only [List.set_cons_zero, List.set_cons_succ, List.getElem?_cons_zero, List.getElem?_cons_succ] at k1_0 k1_1 k1_2; have lt_k1 := k1.lt; have k2_0 := k2.cell 0; have k2_f0 := k2.frozen 0; have k2_1 := k2.cell 1; have k2_f1 := k2.frozen 1; have k2_2 := k2.cell 2; have k2_f2 := k2.frozen 2; simp only [List.set_cons_zero, List.set_cons_succ, List.getElem?_cons_zero, List.getElem?_cons_succ] at k2_0 k2_1 k2_2; have lt_k2 := k2.lt
    by_cases hlt : k < l.length
    · obtain ⟨ad, rfl, hadb, c1, c2⟩ := (ha.below hb).pb hlt
      have hsn : pbs (l.take (k + 1)) = pbs (l.take k) ++ pbC l[k] := by rw [take_snocL l k hlt, pbs_append]; simp [pbs]
      have HSN := hide hsn
      clear hsn
      generalize l[k] = x at *
      have cq1 : ∀ d os, (grow (redrawn wr d) os).cell? (ad.add (k * 2)) = some (.string x.who) := fun d os => ((below_regrown wr d os).cell (by rw [add_block]; omega)).trans c1
      have cq2 : ∀ d os, (grow (redrawn wr d) os).cell? ⟨(ad.add (k * 2)).block, (ad.add (k * 2)).off + 1, none⟩ = some (.string x.user) := fun d os => ((below_regrown wr d os).cell (by dsimp only; rw [add_block]; omega)).trans c2
      go_wp2_with fail
      refine wp_region_mt 8 [(7, RowAt 1 (pbC x))] (by kernel_rfl) (by kernel_rfl) (by kernel_rfl) (by kernel_rfl) (sts_cons (sts_row _ _) sts_nil) (fun kq => ?_); (try dsimp only [List.append, List.take])
      (repeat (refine wpM_via (by kernel_rfl) ?_; go_big_quiet_step (fail); refine wpQuiet_nil ?_))
      (refine wpM_spec _ (RowAt 1 (pbC x)) (by kernel_rfl) (by kernel_rfl) rfl (later_some _) ?_ ?_; (focus (intro x hx hk; obtain ⟨px, rfl⟩ := hx; go_simp; (first | with_reducible refine mUpon_enter ?_ | with_reducible refine mUpon_value ?_); exact row_new (by simp [Go.Sort.grow]) rfl)); intro v hv K hK; obtain ⟨A2, c2', rfl⟩ := hv; go_big_quiet_op; refine hK _ ?_; clear hK K)
      refine wpM_nil ?_; intro wq hwq hfq; have hbq := below_of_class hwq; clear hwq kq; (try dsimp only [List.drop])
      have hrow := row_of hfq.1
      obtain ⟨ad2, rfl, hab, _⟩ := hrow (by simp)
      have hsq := hbq.size
      have own2 := own_below own hbq (Nat.le_refl _)
      replace hb : Below w.heap.size w wq := hb.step hbq
      replace k0 := k0.step hbq; (try clear k0_0 k0_f0 k0_1 k0_f1 k0_2 k0_f2); have k0_0 := k0.cell 0; have k0_f0 := k0.frozen 0; have k0_1 := k0.cell 1; have k0_f1 := k0.frozen 1; have k0_2 := k0.cell 2; have k0_f2 := k0.frozen 2; simp only [List.set_cons_zero, List.set_cons_succ, List.getElem?_cons_zero, List.getElem?_cons_succ] at k0_0 k0_1 k0_2; (try clear lt_k0); have lt_k0 := k0.lt; replace k1 := k1.step hbq; (try clear k1_0 k1_f0 k1_1 k1_f1 k1_2 k1_f2); have k1_0 := k1.cell 0; have k1_f0 := k1.frozen 0; have k1_1 := k1.cell 1; have k1_f1 := k1.frozen 1; have k1_2 := k1.cell 2; have k1_f2 := k1.frozen 2; simp only [List.set_cons_zero, List.set_cons_succ, List.getElem?_cons_zero, List.getElem?_cons_succ] at k1_0 k1_1 k1_2; (try clear lt_k1); have lt_k1 := k1.lt; replace k2 := k2.step hbq; (try clear k2_0 k2_f0 k2_1 k2_f1 k2_2 k2_f2); have k2_0 := k2.cell 0; have k2_f0 := k2.frozen 0; have k2_1 := k2.cell 1; have k2_f1 := k2.frozen 1; have k2_2 := k2.cell 2; have k2_f2 := k2.frozen 2; simp only [List.set_cons_zero, List.set_cons_succ, List.getElem?_cons_zero, List.getElem?_cons_succ] at k2_0 k2_1 k2_2; (try clear lt_k2); have lt_k2 := k2.lt
      clear hfq hbq own cq1 cq2 c1 c2
      refine wpList_app2 rfl (.tmp 18) (.tmp 24) 29 rfl bW 60 iT _ 2 32 Try.underlying29 hi hz0 hz1 hz2 rfl (by omega) W k cW (pbs (l.take k)) rfl own2 ad2 1 c2' (pbC x) rfl rfl (rd_hnews hrow) (by simp [Value.oneCell']) (by unfold maxLen; omega) (by omega) (by omega) (by omega) ?_
      intro g cap w7 own7 hb7 hgr7
      replace k0 := k0.below hb7 (by omega)
      replace k1 := k1.below hb7 (by omega)
      replace k2 := k2.below hb7 (by omega)
      (try clear k0_0 k0_f0 k0_1 k0_f1 k0_2 k0_f2 lt_k0) ; (try clear k1_0 k1_f0 k1_1 k1_f1 k1_2 k1_f2 lt_k1) ; (try clear k2_0 k2_f0 k2_1 k2_f1 k2_2 k2_f2 lt_k2)
      have hs7 := hb7.size
      replace hb : Below w.heap.size w w7 := hb.trans (hb7.mono (by omega))
      clear hi hz0 hz1 hz2 iT own2 hrow hab hb7 hgr7
      have k0_0 := k0.cell 0; have k0_f0 := k0.frozen 0; have k0_1 := k0.cell 1; have k0_f1 := k0.frozen 1; have k0_2 := k0.cell 2; have k0_f2 := k0.frozen 2; simp only [List.set_cons_zero, List.set_cons_succ, List.getElem?_cons_zero, List.getElem?_cons_succ] at k0_0 k0_1 k0_2; have lt_k0 := k0.lt; have k1_0 := k1.cell 0; have k1_f0 := k1.frozen 0; have k1_1 := k1.cell 1; have k1_f1 := k1.frozen 1; have k1_2 := k1.cell 2; have k1_f2 := k1.frozen 2; simp only [List.set_cons_zero, List.set_cons_succ, List.getElem?_cons_zero, List.getElem?_cons_succ] at k1_0 k1_1 k1_2; have lt_k1 := k1.lt; have k2_0 := k2.cell 0; have k2_f0 := k2.frozen 0; have k2_1 := k2.cell 1; have k2_f1 := k2.frozen 1; have k2_2 := k2.cell 2; have k2_f2 := k2.frozen 2; simp only [List.set_cons_zero, List.set_cons_succ, List.getElem?_cons_zero, List.getElem?_cons_succ] at k2_0 k2_1 k2_2; have lt_k2 := k2.lt
      go_wp2
      (try clear k0_0 k0_f0 k0_1 k0_f1 k0_2 k0_f2 lt_k0) ; (try clear k1_0 k1_f0 k1_1 k1_f1 k1_2 k1_f2 lt_k1) ; (try clear k2_0 k2_f0 k2_1 k2_f1 k2_2 k2_f2 lt_k2)
      generalize hV : World.setCell w7 _ _ = w8
      have hb8 : Below w.heap.size w w8 := by subst hV; exact hb.setCell (by dsimp only; omega) _
      have hs8 : bW ≤ w8.heap.size := by subst hV; simp [World.setCell]; omega
      have k28 : Bk w8 (w.heap.size + 1 + 1) 31 (bsC (some ⟨g, 0, none⟩) (k + 1) cap a s) := by subst hV; exact k2.set_ 0 _
      have k08 : Bk w8 w.heap.size 24 (bsC (some ad) l.length c a s) := by subst hV; exact k0.far (by dsimp only; omega) _
      have k18 : Bk w8 (w.heap.size + 1) 31 (bsC none 0 0 0 0) := by subst hV; exact k1.far (by dsimp only; omega) _
      have own8 : w8.ownsRow bW 60 2 (.slice (some ⟨g, 0, none⟩) (k + 1) cap) (k + 1) (pbs (l.take k) ++ pbC x) := by subst hV; exact own_far own7 (by dsimp only; omega) _
      clear hV
      go_roundw
      case rel => exact ⟨k + 1, by omega, by go_num, ⟨_, cap, k28, by rw [HSN.out]; exact own8⟩, k08, k18, hs8, hb8⟩
      case measure => simp [intOf]; omega
    · have hkl : k = l.length := by omega
      subst hkl
      rw [List.take_length] at own
      have hcap := own_cap30 own
      have hble := own_blk own
      have hrd := own_rd own
      go_wp2_with (first | (refine wpList_store_row rfl 31 _ _ rfl _ (bsC W l.length cW a s).toArray rfl rfl _ _ k1 (by kernel_rfl) (by kernel_rfl) (by kernel_rfl) ?_))
      have r6 := k1.srow (bsC W l.length cW a s)
      have hbr := srow_below hb (Nat.le_succ w.heap.size) (bsC W l.length cW a s).toArray
      have hrd2 := hrd.rowFar (g := w.heap.size + 1) (fun ad e => by have := (hble ad e).1; omega) (bsC W l.length cW a s).toArray
      exact bodyPost_ret (v := bsV W l.length cW a s) (results_cell_row rfl _ _ _ _ _ (0, 0) _ rfl r6 Try.underlying31 rfl (by kernel_rfl)) rfl ⟨_, rfl, ⟨W, cW, rfl, hcap.1, hrd2⟩, hbr⟩
def ProbesPost (w : World) (l : List Pb) (e : Ending) (w' : World) : Prop := ∃ A c, e = .returned (.slice A l.length c) ∧ w'.ownsRow w.heap.size 26 2 (.slice A l.length c) l.length (pbs l) ∧ Below w.heap.size w w'
set_option maxRecDepth 100000 in
set_option maxHeartbeats 4000000 in
theorem law_probes_any (A : Option Addr) (c : Nat) (l : List Pb) (w : World) (hl : l.length ≤ 1000) (ha : Rd w w.heap.size A (pbs l)) :
    Calls Try.prog 17 #[.slice A l.length c] w (ProbesPost w l) := by
  obtain ⟨iT, hi, hz0, hz1, hz2⟩ := info_parts rb_info
  go_enter Try.func17, Try.ntmps17
  go_wp2_with fail
  go_loopw [3, 4] (fun v i wr => ∃ (k : Nat) (W : Option Addr) (cW : Nat), k ≤ l.length ∧ i = .int .i64 k ∧ v = .slice W k cW ∧ wr.ownsRow w.heap.size 26 2 (.slice W k cW) k (pbs (l.take k)) ∧ w.heap.size ≤ wr.heap.size ∧ Below w.heap.size w wr) (fun _ i _ => l.length - (intOf i).toNat)
  case atStart => exact ⟨0, none, 0, Nat.zero_le _, rfl, rfl, ⟨by simp [pbs], .inl ⟨rfl, rfl⟩⟩, Nat.le_refl _, by (repeat (first | with_reducible exact Below.refl _ _ | with_reducible assumption | with_reducible refine Below.drew ?_ | with_reducible refine Below.drewN ?_ _ | with_reducible refine Below.alloc1 ?_ _ | with_reducible refine Below.setCell1 ?_ (by first | omega | (simp; done) | (simp; omega)) _ | with_reducible refine Below.step ?_ (by with_reducible assumption)))⟩
  case round =>
    obtain ⟨k, W, cW, hk, rfl, rfl, own, hbw, hb⟩ := hrel
    by_cases hlt : k < l.length
    · obtain ⟨ad, rfl, hadb, c1, c2⟩ := (ha.below hb).pb hlt
      have HSN := hide (show pbs (l.take (k + 1)) = pbs (l.take k) ++ pbC l[k] by rw [take_snocL l k hlt, pbs_append]; simp [pbs])
      generalize l[k] = x at *
      obtain ⟨y, z⟩ := x
      dsimp only at c1 c2
      go_wp2_with (at_builtin; refine wpList_app2 rfl (.tmp 11) (.tmp 16) 22 rfl w.heap.size 26 iT _ 2 32 Try.underlying22 hi hz0 hz1 hz2 rfl (by omega) W k cW (pbs (l.take k)) rfl (own.alloc _) ⟨wr.heap.size, 0, none⟩ 1 1 (pbC ⟨y, z⟩) rfl rfl (news_at (cs := [_, _])) (by simp [Value.oneCell']) (by unfold maxLen; omega) (by omega) (by simp; omega) (by omega) ?_; intro g2 cap w7 own7 hb7 hgr7)
      have hs7 := hb7.size
      simp at hs7
      replace hb : Below w.heap.size w w7 := (hb.alloc1 _).trans hb7
      rw [← HSN.out] at own7
      clear own hb7 hgr7 c1 c2
      go_wp2
      go_roundw
      case rel => exact ⟨k + 1, some ⟨g2, 0, none⟩, cap, by omega, by go_num, rfl, own7, by omega, hb⟩
      case measure => simp [intOf]; omega
    · have hkl : k = l.length := by omega
      subst hkl
      rw [List.take_length] at own
      go_wp2
      go_ret
      exact ⟨W, cW, rfl, own, hb⟩
theorem _root_.Go.Calls.mownR {P : Program} {f : FuncId} {args : Array Value} {w : World} {base : Nat} {t : TypeId} {size n : Nat} {xs : List Value} (hb : base ≤ w.heap.size) (h : Calls P f args w fun e w' => ∃ B d, e = .returned (.slice B n d) ∧ w'.ownsRow w.heap.size t size (.slice B n d) n xs ∧ Below w.heap.size w w') : Calls P f args w (mPost (OwnAtR base t size n xs) w) :=
  h.mono fun _ _ ⟨B, d, he, hr, hb'⟩ => ⟨_, he, ⟨B, d, rfl⟩, ⟨B, d, rfl, own_mono30 hr hb⟩, hb'⟩
def BackPost (w : World) (x : Bs) (e : Ending) (w' : World) : Prop := ∃ A c, e = .returned (bsV A x.l.length c x.asked x.saved) ∧ Rd w' w'.heap.size A (pbs x.l) ∧ Below w.heap.size w w'
set_option maxRecDepth 100000 in
set_option maxHeartbeats 4000000 in
theorem law_Back_any (A : Option Addr) (c : Nat) (l : List Pb) (a s : Int) (w : World) (hl : l.length ≤ 1000) (ha : Rd w w.heap.size A (pbs l)) :
    Calls Try.prog 15 #[bsV A l.length c a s] w (BackPost w ⟨l, a, s⟩) := by
  have hP := fun (W : World) (h : Below w.heap.size w W) => law_probes_any A c l W hl ((ha.below h).more h.size)
  go_enter Try.func15, Try.ntmps15
  go_wp2_with fail
  generalize hV : World.alloc (World.alloc w _) _ = w1
  have hb : Below w.heap.size w w1 := by subst hV; (repeat (first | with_reducible exact Below.refl _ _ | with_reducible assumption | with_reducible refine Below.drew ?_ | with_reducible refine Below.drewN ?_ _ | with_reducible refine Below.alloc1 ?_ _ | with_reducible refine Below.setCell1 ?_ (by first | omega | (simp; done) | (simp; omega)) _ | with_reducible refine Below.step ?_ (by with_reducible assumption)))
  have k0 : Bk w1 w.heap.size 31 (bsC A l.length c a s) := by subst hV; (repeat (first | with_reducible exact Bk.new' _ _ _ _ (by simp; done) | with_reducible assumption | with_reducible refine Bk.alloc ?_ _ | with_reducible refine Bk.drew ?_ | with_reducible refine Bk.drewN ?_ _ | with_reducible refine Bk.step ?_ (by with_reducible assumption) | with_reducible refine Bk.far ?_ (by first | omega | (simp; done) | (simp; omega)) _))
  have k1 : Bk w1 (w.heap.size + 1) 24 (bsC none 0 0 0 0) := by subst hV; (repeat (first | with_reducible exact Bk.new' _ _ _ _ (by simp; done) | with_reducible assumption | with_reducible refine Bk.alloc ?_ _ | with_reducible refine Bk.drew ?_ | with_reducible refine Bk.drewN ?_ _ | with_reducible refine Bk.step ?_ (by with_reducible assumption) | with_reducible refine Bk.far ?_ (by first | omega | (simp; done) | (simp; omega)) _))
  clear hV
  have k0_0 := k0.cell 0; have k0_f0 := k0.frozen 0; have k0_1 := k0.cell 1; have k0_f1 := k0.frozen 1; have k0_2 := k0.cell 2; have k0_f2 := k0.frozen 2; simp only [List.set_cons_zero, List.set_cons_succ, List.getElem?_cons_zero, List.getElem?_cons_succ] at k0_0 k0_1 k0_2; have lt_k0 := k0.lt; have k1_0 := k1.cell 0; have k1_f0 := k1.frozen 0; have k1_1 := k1.cell 1; have k1_f1 := k1.frozen 1; have k1_2 := k1.cell 2; have k1_f2 := k1.frozen 2; simp only [List.set_cons_zero, List.set_cons_succ, List.getElem?_cons_zero, List.getElem?_cons_succ] at k1_0 k1_1 k1_2; have lt_k1 := k1.lt
  refine wp_region_mt 8 [(2, OwnAtR w1.heap.size 26 2 l.length (pbs l))] (by kernel_rfl) (by kernel_rfl) (by kernel_rfl) (by kernel_rfl) (sts_cons (sts_ownR _ _ _ _ _) sts_nil) (fun kq => ?_); (try dsimp only [List.append, List.take])
  (repeat (refine wpM_via (by kernel_rfl) ?_; go_big_quiet_step (fail); refine wpQuiet_nil ?_))
  (refine wpM_spec _ (OwnAtR w1.heap.size 26 2 l.length (pbs l)) (by kernel_rfl) (by kernel_rfl) rfl (later_some _) ?_ ?_; (focus (intro x hx hk; obtain ⟨px, rfl⟩ := hx; go_simp; (first | with_reducible refine mUpon_enter ?_ | with_reducible refine mUpon_value ?_); go_at_call 17; exact (hP _ (hb.step (below_regrown w1 _ _))).mownR (below_regrown w1 px.d px.os).size)); intro v hv K hK; obtain ⟨A2, c2, rfl⟩ := hv; go_big_quiet_op; refine hK _ ?_; clear hK K)
  (repeat (refine wpM_via (by kernel_rfl) ?_; go_big_quiet_step (fail); refine wpQuiet_nil ?_))
  refine wpM_nil ?_; intro wq hwq hfq; have hbq := below_of_class hwq; clear hwq kq; (try dsimp only [List.drop])
  have own := own_ofR (base := w1.heap.size) hfq.1
  have hs1 : w.heap.size + 1 < w1.heap.size := lt_k1
  replace k0 := k0.step hbq; (try clear k0_0 k0_f0 k0_1 k0_f1 k0_2 k0_f2); have k0_0 := k0.cell 0; have k0_f0 := k0.frozen 0; have k0_1 := k0.cell 1; have k0_f1 := k0.frozen 1; have k0_2 := k0.cell 2; have k0_f2 := k0.frozen 2; simp only [List.set_cons_zero, List.set_cons_succ, List.getElem?_cons_zero, List.getElem?_cons_succ] at k0_0 k0_1 k0_2; (try clear lt_k0); have lt_k0 := k0.lt; replace k1 := k1.step hbq; (try clear k1_0 k1_f0 k1_1 k1_f1 k1_2 k1_f2); have k1_0 := k1.cell 0; have k1_f0 := k1.frozen 0; have k1_1 := k1.cell 1; have k1_f1 := k1.frozen 1; have k1_2 := k1.cell 2; have k1_f2 := k1.frozen 2; simp only [List.set_cons_zero, List.set_cons_succ, List.getElem?_cons_zero, List.getElem?_cons_succ] at k1_0 k1_1 k1_2; (try clear lt_k1); have lt_k1 := k1.lt
  replace hb := hb.step hbq
  have hble := own_blk own
  have hrd := own_rd own
  clear hfq hbq own
  go_wp2_with (first | (refine wpList_store_row rfl 24 _ _ rfl _ (bsC A2 l.length c2 a s).toArray rfl rfl _ _ k1 (by kernel_rfl) (by kernel_rfl) (by kernel_rfl) ?_))
  have r6 := k1.srow (bsC A2 l.length c2 a s)
  have hbr := srow_below hb (Nat.le_succ w.heap.size) (bsC A2 l.length c2 a s).toArray
  have hrd2 := hrd.rowFar (g := w.heap.size + 1) (fun ad e => by have := (hble ad e).1; omega) (bsC A2 l.length c2 a s).toArray
  exact bodyPost_ret (v := bsV A2 l.length c2 a s) (results_cell_row rfl _ _ _ _ _ (0, 0) _ rfl r6 Try.underlying24 rfl (by kernel_rfl)) rfl ⟨A2, c2, rfl, hrd2, hbr⟩
end Go.Proofs.Ytfgfkiifekeeaaa
