/- The walk of BatchRounds. -/
import Derived.Test.YtfgfkiifekeeaaaC2
namespace Go.Proofs.Ytfgfkiifekeeaaa
open Go.RowKit Go.Shelf Go.Sort
set_option linter.unusedSimpArgs false
set_option linter.unusedVariables false

set_option maxRecDepth 1000000 in
set_option maxHeartbeats 16000000 in
theorem BatchRounds_walk (D : Option Addr) (c : Nat) (ds : List Dd) (n : Int) (w : World) (hds : ds.length ≤ maxLen) (hB : ∀ x ∈ ds, DdB x) (hn : 0 ≤ n ∧ n ≤ 255) (hr : Rd w w.heap.size D (dds ds)) (hm : MW w) :
    Calls Try.prog 6 #[.slice D ds.length c, .int .u8 n] w fun e w' => e = .returned (.bool true) ∧ Below w.heap.size w w' := by
  by_cases h100 : 100 < ds.length
  · have g1 : (100 : Int) < (ds.length : Int) := by omega
    clear h100
    unfold maxLen at hds
    go_enter Try.func6, Try.ntmps6
    go_wp2_with fail
    refine (awake30 _ (hm.step (by (repeat (first | with_reducible exact Below.refl _ _ | with_reducible assumption | with_reducible refine Below.drew ?_ | with_reducible refine Below.drewN ?_ _ | with_reducible refine Below.alloc1 ?_ _ | with_reducible refine Below.setCell1 ?_ (by first | omega | (simp; done) | (simp; omega)) _ | with_reducible refine Below.step ?_ (by with_reducible assumption)))))).mono ?_; rintro e w1 ⟨rfl, hb⟩
    go_wp2_with fail
    go_ret
    exact ⟨rfl, (show Below w.heap.size w _ by (repeat (first | with_reducible exact Below.refl _ _ | with_reducible assumption | with_reducible refine Below.drew ?_ | with_reducible refine Below.drewN ?_ _ | with_reducible refine Below.alloc1 ?_ _ | with_reducible refine Below.setCell1 ?_ (by first | omega | (simp; done) | (simp; omega)) _ | with_reducible refine Below.step ?_ (by with_reducible assumption)))).step hb⟩
  have g1 : (ds.length : Int) ≤ 100 := by omega
  clear h100 hds
  go_enter Try.func6, Try.ntmps6
  go_wp2_with fail
  generalize hV : World.alloc w _ = w1
  have hb : Below w.heap.size w w1 := by subst hV; (repeat (first | with_reducible exact Below.refl _ _ | with_reducible assumption | with_reducible refine Below.drew ?_ | with_reducible refine Below.drewN ?_ _ | with_reducible refine Below.alloc1 ?_ _ | with_reducible refine Below.setCell1 ?_ (by first | omega | (simp; done) | (simp; omega)) _ | with_reducible refine Below.step ?_ (by with_reducible assumption)))
  have kS : Bk w1 w.heap.size 31 (bsC none 0 0 0 0) := by subst hV; (repeat (first | with_reducible exact Bk.new' _ _ _ _ (by simp; done) | with_reducible assumption | with_reducible refine Bk.alloc ?_ _ | with_reducible refine Bk.drew ?_ | with_reducible refine Bk.drewN ?_ _ | with_reducible refine Bk.step ?_ (by with_reducible assumption) | with_reducible refine Bk.far ?_ (by first | omega | (simp; done) | (simp; omega)) _))
  clear hV
  go_loopw [6] (fun i wr => ∃ (k : Nat) (x : Bs) (A : Option Addr) (d : Nat), k ≤ ds.length ∧ i = .int .i64 k ∧ Hid (Gd x) ∧ Bk wr w.heap.size 31 (bsC A x.l.length d x.asked x.saved) ∧ x.l.length ≤ d ∧ Rd wr wr.heap.size A (pbs x.l) ∧ (∀ ad, A = some ad → ad.block ≠ w.heap.size) ∧ Below w.heap.size w wr) (fun i _ => ds.length - (intOf i).toNat)
  case atStart => exact ⟨0, ⟨[], 0, 0⟩, none, 0, Nat.zero_le _, rfl, Gd.nil, kS, Nat.le_refl _, Rd.nil, (fun ad e => by cases e), hb⟩
  case round =>
    clear kS hb
    obtain ⟨k, x, A, d, hk, rfl, HG, kS, hd, rA, hA, hb⟩ := hrel
    have lS := kS.lt
    have hm1 := hm.step hb
    by_cases hlt : k < ds.length
    · obtain ⟨ad, rfl, hadb, c0, c1, c2, c3⟩ := (hr.below hb).dd hlt
      have hbd := hB _ (List.getElem_mem hlt)
      generalize ds[k] = dd at *
      obtain ⟨da, db, dt, dg⟩ := dd
      obtain ⟨⟨ha0, ha1⟩, ⟨hb0, hb1⟩, _⟩ := hbd
      dsimp only at ha0 ha1 hb0 hb1 c0 c1
      obtain ⟨a, rfl⟩ : ∃ a : Nat, da = a := ⟨da.toNat, by omega⟩
      obtain ⟨b, rfl⟩ : ∃ b : Nat, db = b := ⟨db.toNat, by omega⟩
      have cq0 : ∀ d os, (grow (redrawn wr d) os).cell? (ad.add (k * 4)) = some (.int .u8 (a : Int)) := fun d os => ((below_regrown wr d os).cell (by rw [add_block]; have := hb.size; omega)).trans c0
      have cq1 : ∀ d os, (grow (redrawn wr d) os).cell? { block := (ad.add (k * 4)).block, off := (ad.add (k * 4)).off + 1 } = some (.int .u8 (b : Int)) := fun d os => ((below_regrown wr d os).cell (by show (ad.add (k * 4)).block < _; rw [add_block]; have := hb.size; omega)).trans c1
      have hP := fun (W : World) => law_probe_any a b (by omega) (by omega) W
      have pF := prb_fine a b
      have pS := prb_sm a b
      generalize prb a b = p at *
      have HG2 := hide (HG.out.put pF pS)
      have hSm := HG.out.2
      have hl64 := HG.out.len
      go_upto_region 7 with fail
      refine wp_region_mt 12 [(10, only (pbV p)), (11, NewBk wr.heap.size 60 (pbC ⟨⟨#[]⟩, ⟨#[]⟩⟩))] (by kernel_rfl) (by kernel_rfl) (by kernel_rfl) (by kernel_rfl) (sts_cons (sts_only _) (sts_cons (sts_newBk _ _ _) sts_nil)) (fun kq => ?_); (try dsimp only [List.append, List.take])
      (repeat (refine wpM_via (by kernel_rfl) ?_; go_big_quiet_step (fail); refine wpQuiet_nil ?_))
      (refine wpM_only _ (pbV p) (by kernel_rfl) (by kernel_rfl) rfl (later_some _) ?_ ?_; (focus (intro x hx hk; obtain ⟨px, rfl⟩ := hx; go_simp; (first | with_reducible refine mUpon_enter ?_ | with_reducible refine mUpon_value ?_); go_at_call 28; exact (hP _).mo)); intro K hK; go_big_quiet_op; refine hK _ ?_; clear hK K)
      (repeat (refine wpM_via (by kernel_rfl) ?_; go_big_quiet_step (fail); refine wpQuiet_nil ?_))
      (refine wpM_spec _ (NewBk wr.heap.size 60 (pbC ⟨⟨#[]⟩, ⟨#[]⟩⟩)) (by kernel_rfl) (by kernel_rfl) rfl (later_some _) ?_ ?_; (focus (intro x hx hk; obtain ⟨px, rfl⟩ := hx; go_simp; (first | with_reducible refine mUpon_enter ?_ | with_reducible refine mUpon_value ?_); exact newBk_new (by simp [Go.Sort.grow]) rfl (by simp [Go.Sort.grow, redrawn]))); intro v hv K hK; obtain ⟨g, rfl, hg⟩ := hv; go_big_quiet_op; refine hK _ ?_; clear hK K)
      refine wpM_nil ?_; intro wq hwq hfq; have hbq := below_of_class hwq; clear hwq kq; (try dsimp only [List.drop])
      have kg : Bk wq g 60 (pbC ⟨⟨#[]⟩, ⟨#[]⟩⟩) := newBk_of (base := wr.heap.size) hfq.1
      go_upto_region 8 with (first | (refine wpList_store_row rfl 60 _ _ rfl _ (pbC p).toArray rfl rfl _ _ kg (by kernel_rfl) (by kernel_rfl) (by kernel_rfl) ?_))
      generalize hV : World.setRow wq _ _ = w2
      have hx : Below wr.heap.size wr w2 := by subst hV; exact srow_below hbq hg _
      have kp : Bk w2 g 60 (pbC p) := by subst hV; exact kg.srow (pbC p)
      clear hV kg hfq hbq cq0 cq1 c0 c1 c2 c3
      have lS2 : w.heap.size < w2.heap.size := by have := hx.size; omega
      have kS2 := kS.step hx
      have rA2 := rA.step hx
      replace hb := hb.step hx
      replace hm1 := hm1.step hx
      clear hx kS rA hP
      have kS2_0 := kS2.cell 0; have kS2_f0 := kS2.frozen 0; have kS2_1 := kS2.cell 1; have kS2_f1 := kS2.frozen 1; have kS2_2 := kS2.cell 2; have kS2_f2 := kS2.frozen 2; simp only [List.set_cons_zero, List.set_cons_succ, List.getElem?_cons_zero, List.getElem?_cons_succ] at kS2_0 kS2_1 kS2_2; have lt_kS2 := kS2.lt; have kp_0 := kp.cell 0; have kp_f0 := kp.frozen 0; have kp_1 := kp.cell 1; have kp_f1 := kp.frozen 1; simp only [List.set_cons_zero, List.set_cons_succ, List.getElem?_cons_zero, List.getElem?_cons_succ] at kp_0 kp_1; have lt_kp := kp.lt
      have hQ := batch_Put_fr A d x.l x.asked x.saved p.who p.user w2 (by omega) hd hSm pS hm1 rA2
      obtain ⟨y, z⟩ := p
      dsimp only at hQ
      go_wp2_with fail
      refine hQ.mono ?_; rintro e w3 ⟨V, rfl, ⟨A3, d3, rfl, hd3, r3, hF⟩, hx⟩
      have hA3 := hF.ne lS2 hA
      replace hb := hb.step hx
      replace kS2 := kS2.step hx
      (try clear kS2_0 kS2_f0 kS2_1 kS2_f1 kS2_2 kS2_f2 lt_kS2) ; (try clear kp_0 kp_f0 kp_1 kp_f1 lt_kp)
      clear hx hQ hF rA2 hA hm1 hSm
      have kS2_0 := kS2.cell 0; have kS2_f0 := kS2.frozen 0; have kS2_1 := kS2.cell 1; have kS2_f1 := kS2.frozen 1; have kS2_2 := kS2.cell 2; have kS2_f2 := kS2.frozen 2; simp only [List.set_cons_zero, List.set_cons_succ, List.getElem?_cons_zero, List.getElem?_cons_succ] at kS2_0 kS2_1 kS2_2; have lt_kS2 := kS2.lt
      generalize bPut ⟨x.l, x.asked, x.saved⟩ ⟨y, z⟩ = R at *
      obtain ⟨⟨l3, a3, s3⟩, e3⟩ := R
      dsimp only at hd3 r3
      go_wp2_with (first | (refine wpList_store_row rfl 31 _ _ rfl _ (bsC A3 l3.length d3 a3 s3).toArray rfl rfl _ _ kS2 (by kernel_rfl) (by kernel_rfl) (by kernel_rfl) ?_))
      have kS4 := kS2.srow (bsC A3 l3.length d3 a3 s3)
      have r4 := r3.rowFar hA3 (bsC A3 l3.length d3 a3 s3).toArray
      have hb4 := srow_below hb (Nat.le_refl _) (bsC A3 l3.length d3 a3 s3).toArray
      go_roundw
      case rel => exact ⟨k + 1, ⟨l3, a3, s3⟩, A3, d3, by omega, by go_num, HG2, kS4, hd3, r4, hA3, hb4⟩
      case measure => simp [intOf]; omega
    · obtain ⟨l, a, s⟩ := x
      dsimp only at kS hd rA
      have hl64 := HG.out.len
      have hSm := HG.out.2
      have hN : 1 ≤ 1 + n := by omega
      dsimp only at hl64 hSm
      have hQ := batch_Rounds_any A d l a s (1 + n) wr (by omega) hd hSm hm1 rA
      obtain ⟨rb0, rb1, rb2⟩ := rounds_bd HG.out hN
      have HP := hide (fun y i => Lf.pos (x := ⟨l, a, s⟩) (y := y) (i := i) HG.out hN)
      have HE := hide (fun y i => Lf.end_ (x := ⟨l, a, s⟩) (y := y) (i := i) HG.out hN)
      have HS := hide (Lf.start ⟨l, a, s⟩ (1 + n))
      generalize bRounds ⟨l, a, s⟩ (1 + n) = R at *
      have hq : ∃ q : Bool, (R == 0) = q ∧ ((l.length : Int) == 0) = q := by
        refine ⟨_, rfl, ?_⟩
        rw [Bool.eq_iff_iff, beq_iff_eq, beq_iff_eq]
        dsimp only at rb2
        omega
      obtain ⟨q, q1, q2⟩ := hq
      have kS_0 := kS.cell 0; have kS_f0 := kS.frozen 0; have kS_1 := kS.cell 1; have kS_f1 := kS.frozen 1; have kS_2 := kS.cell 2; have kS_f2 := kS.frozen 2; simp only [List.set_cons_zero, List.set_cons_succ, List.getElem?_cons_zero, List.getElem?_cons_succ] at kS_0 kS_1 kS_2; have lt_kS := kS.lt
      clear rb2
      obtain ⟨wo, rfl⟩ : ∃ wo : World, wo = wr := ⟨_, rfl⟩
      go_wp2_with fail
      refine hQ.mono ?_; rintro e w2 ⟨rfl, hx⟩
      replace hb := hb.step hx
      replace hm1 := hm1.step hx
      replace rA := rA.step hx
      replace kS := kS.step hx; (try clear kS_0 kS_f0 kS_1 kS_f1 kS_2 kS_f2); have kS_0 := kS.cell 0; have kS_f0 := kS.frozen 0; have kS_1 := kS.cell 1; have kS_f1 := kS.frozen 1; have kS_2 := kS.cell 2; have kS_f2 := kS.frozen 2; simp only [List.set_cons_zero, List.set_cons_succ, List.getElem?_cons_zero, List.getElem?_cons_succ] at kS_0 kS_1 kS_2; (try clear lt_kS); have lt_kS := kS.lt
      clear hx hQ
      have lS2 : w.heap.size < w2.heap.size := lt_kS
      go_upto_region 12 with fail
      go_wp2_with fail
      clear q1 q2
      (try clear kS_0 kS_f0 kS_1 kS_f1 kS_2 kS_f2 lt_kS)
      go_loopw [10] (fun v wr => ∃ (i : Int) (y : Bs) (A : Option Addr) (d : Nat), 0 ≤ i ∧ i ≤ R ∧ v = .int .i64 i ∧ Hid (Gd y) ∧ Hid (Lf ⟨l, a, s⟩ y (1 + n) i) ∧ Bk wr w.heap.size 31 (bsC A y.l.length d y.asked y.saved) ∧ y.l.length ≤ d ∧ Rd wr wr.heap.size A (pbs y.l) ∧ (∀ ad, A = some ad → ad.block ≠ w.heap.size) ∧ Below w.heap.size w wr) (fun v _ => (R - intOf v).toNat)
      case atStart => exact ⟨0, ⟨l, a, s⟩, A, d, by omega, rb0, rfl, HG, HS, kS, hd, rA, hA, hb⟩
      case round =>
        clear kS hb rA hA HG hd hl64 hSm lS lS2 hm1 HS
        obtain ⟨i, y, A, d, hi0, hi1, rfl, HG, HL, kS, hd, rA, hA, hb⟩ := hrel
        have lS := kS.lt
        have hm1 := hm.step hb
        obtain ⟨l2, a2, s2⟩ := y
        dsimp only at kS hd rA
        have hl64 := HG.out.len
        have hSm := HG.out.2
        dsimp only at hl64 hSm
        by_cases hlt : i < R
        · have hpos := HP.out _ _ ⟨hi0, hlt⟩ HL.out
          have HG2 := hide (HG.out.take (1 + n))
          have HL2 := hide (HL.out.step HG.out hN hi0 hpos)
          dsimp only at hpos
          have e0 : ((l2.length : Int) == 0) = false := by rw [beq_eq_false_iff_ne]; omega
          have hU := bUsers_len l2
          have fU := fun (W : World) (hR : Rd W W.heap.size A (pbs l2)) => batch_Users_any A d l2 a2 s2 W (by omega) hR
          generalize bUsers l2 = U at *
          have hUI : (U.length : Int) ≤ (l2.length : Int) := by omega
          have hU2 : (U.length : Int) ≤ 64 := by omega
          have hU0 := hide hU
          clear hU
          have kS_0 := kS.cell 0; have kS_f0 := kS.frozen 0; have kS_1 := kS.cell 1; have kS_f1 := kS.frozen 1; have kS_2 := kS.cell 2; have kS_f2 := kS.frozen 2; simp only [List.set_cons_zero, List.set_cons_succ, List.getElem?_cons_zero, List.getElem?_cons_succ] at kS_0 kS_1 kS_2; have lt_kS := kS.lt
          go_upto_region 16 with fail
          refine wp_region_m [(6, RowAt U.length (txts U))] (by kernel_rfl) (by kernel_rfl) (by kernel_rfl) (by kernel_rfl) (sts_cons (sts_row _ _) sts_nil) (fun kq => ?_); (try dsimp only [List.append])
          (repeat (refine wpM_via (by kernel_rfl) ?_; go_big_quiet_step (fail); refine wpQuiet_nil ?_))
          (refine wpM_spec _ (RowAt U.length (txts U)) (by kernel_rfl) (by kernel_rfl) rfl (later_some _) ?_ ?_; (focus (intro x hx hk; obtain ⟨px, rfl⟩ := hx; go_simp; (first | with_reducible refine mUpon_enter ?_ | with_reducible refine mUpon_value ?_); go_at_call 23; exact row_mT2 (fU _ (rA.step (below_regrown wr _ _))))); intro v hv K hK; obtain ⟨E1, e1, rfl⟩ := hv; go_big_quiet_op; refine hK _ ?_; clear hK K)
          (repeat (refine wpM_via (by kernel_rfl) ?_; go_big_quiet_step (fail); refine wpQuiet_nil ?_))
          refine wpM_nil ?_; intro wq hwq hfq; have hbq := below_of_class hwq; clear hwq kq; (try dsimp only [List.drop])
          replace hb := hb.step hbq
          replace hm1 := hm1.step hbq
          have rA2 := rA.step hbq
          replace kS := kS.step hbq; (try clear kS_0 kS_f0 kS_1 kS_f1 kS_2 kS_f2); have kS_0 := kS.cell 0; have kS_f0 := kS.frozen 0; have kS_1 := kS.cell 1; have kS_f1 := kS.frozen 1; have kS_2 := kS.cell 2; have kS_f2 := kS.frozen 2; simp only [List.set_cons_zero, List.set_cons_succ, List.getElem?_cons_zero, List.getElem?_cons_succ] at kS_0 kS_1 kS_2; (try clear lt_kS); have lt_kS := kS.lt
          have lS2 : w.heap.size < wq.heap.size := lt_kS
          clear hfq hbq rA fU
          have hQ := batch_Take_fr A d l2 a2 s2 (1 + n) wq (by omega) hd hSm hm1 rA2
          go_wp2_with fail
          refine hQ.mono ?_; rintro e w3 ⟨V, E3, f3, rfl, ⟨A3, d3, rfl, hd3, r3, hF⟩, _, _, hx⟩
          have hA3 := hF.ne lS2 hA
          replace hb := hb.step hx
          have kS2 := kS.step hx
          (try clear kS_0 kS_f0 kS_1 kS_f1 kS_2 kS_f2 lt_kS)
          clear hx hQ hF rA2 hA hm1 hSm kS
          have kS2_0 := kS2.cell 0; have kS2_f0 := kS2.frozen 0; have kS2_1 := kS2.cell 1; have kS2_f1 := kS2.frozen 1; have kS2_2 := kS2.cell 2; have kS2_f2 := kS2.frozen 2; simp only [List.set_cons_zero, List.set_cons_succ, List.getElem?_cons_zero, List.getElem?_cons_succ] at kS2_0 kS2_1 kS2_2; have lt_kS2 := kS2.lt
          generalize bTake ⟨l2, a2, s2⟩ (1 + n) = T at *
          obtain ⟨⟨l3, a3, s3⟩, t3⟩ := T
          dsimp only at hd3 r3
          go_wp2_with (first | (refine wpList_store_row rfl 31 _ _ rfl _ (bsC A3 l3.length d3 a3 s3).toArray rfl rfl _ _ kS2 (by kernel_rfl) (by kernel_rfl) (by kernel_rfl) ?_))
          have kS4 := kS2.srow (bsC A3 l3.length d3 a3 s3)
          have r4 := r3.rowFar hA3 (bsC A3 l3.length d3 a3 s3).toArray
          have hb4 := srow_below hb (Nat.le_refl _) (bsC A3 l3.length d3 a3 s3).toArray
          go_roundw
          case rel => exact ⟨i + 1, ⟨l3, a3, s3⟩, A3, d3, by omega, by omega, by go_num, HG2, HL2, kS4, hd3, r4, hA3, hb4⟩
          case measure => simp [intOf]; omega
        · have hE := HE.out _ _ (show i = R by omega) HL.out
          dsimp only at hE
          have e0 : ((l2.length : Int) == 0) = true := by rw [beq_iff_eq]; omega
          clear hE
          have kS_0 := kS.cell 0; have kS_f0 := kS.frozen 0; have kS_1 := kS.cell 1; have kS_f1 := kS.frozen 1; have kS_2 := kS.cell 2; have kS_f2 := kS.frozen 2; simp only [List.set_cons_zero, List.set_cons_succ, List.getElem?_cons_zero, List.getElem?_cons_succ] at kS_0 kS_1 kS_2; have lt_kS := kS.lt
          go_wp2_with fail
          refine (awake30 _ hm1).mono ?_; rintro e w3 ⟨rfl, hx⟩
          go_wp2_with fail
          go_ret
          exact ⟨rfl, hb.step hx⟩
end Go.Proofs.Ytfgfkiifekeeaaa
