/- The walk of AdmitDraw. -/
import Derived.Test.YtolpiaehleefbaaRun18b
import Derived.Test.YtolpiaehleefbaaStp18
import Derived.Test.YtolpiaehleefbaaDrw18
import Derived.Test.YtolpiaehleefbaaRef18b
import Derived.Test.YtolpiaehleefbaaAwake18
namespace Go.Proofs.Ytolpiaehleefbaa
open Go.RowKit Go.Sort
set_option linter.unusedSimpArgs false
set_option linter.unusedVariables false

set_option maxRecDepth 100000 in
set_option maxHeartbeats 16000000 in
theorem AdmitDraw_walk (A : Option Addr) (c : Nat) (l : List (Int × Int × Int × Int)) (p0 p1 p2 p3 other : Int) (w : World) (hl : l.length ≤ maxLen) (hlb : (∀ x ∈ l, (0 ≤ x.1 ∧ x.1 ≤ 255) ∧ (0 ≤ x.2.1 ∧ x.2.1 ≤ 255) ∧ (0 ≤ x.2.2.1 ∧ x.2.2.1 ≤ 255) ∧ 0 ≤ x.2.2.2 ∧ x.2.2.2 ≤ 65535)) (ha : Rd w w.heap.size A (stpR l)) (hp0 : 0 ≤ p0 ∧ p0 ≤ 255) (hp1 : 0 ≤ p1 ∧ p1 ≤ 255) (hp2 : 0 ≤ p2 ∧ p2 ≤ 255) (hp3 : 0 ≤ p3 ∧ p3 ≤ 65535) (hot : 0 ≤ other ∧ other ≤ 65535) :
    Calls Try.prog 6 #[.slice A l.length c, .agg #[.int .u8 p0, .int .u8 p1, .int .u8 p2, .int .u16 p3], .int .u16 other] w fun e w' => e = .returned (.bool true) ∧ Below w.heap.size w w' := by
  by_cases h50 : 30 < l.length
  · have g1 : (30 : Int) < (l.length : Int) := by omega
    go_enter Try.func6, Try.ntmps6
    go_wp2_with fail
    refine (awake18_any _).mono ?_; rintro e y1 ⟨rfl, hx2⟩
    go_wp2
    go_ret
    exact ⟨rfl, by (repeat (first | with_reducible exact Below.refl _ _ | with_reducible assumption | with_reducible refine Below.drew ?_ | with_reducible refine Below.drewN ?_ _ | with_reducible refine Below.alloc1 ?_ _ | with_reducible refine Below.setCell1 ?_ (by first | omega | (simp; done) | (simp; omega)) _ | with_reducible refine Below.step ?_ (by with_reducible assumption)))⟩
  have g1 : (l.length : Int) ≤ 30 := by omega
  have hll : l.length ≤ 30 := by omega
  have HLB := hide hlb
  clear hlb h50
  go_enter Try.func6, Try.ntmps6
  go_upto_region 1 with fail
  generalize hV : World.alloc w _ = w1
  have hb : Below w.heap.size w w1 := by subst hV; (repeat (first | with_reducible exact Below.refl _ _ | with_reducible assumption | with_reducible refine Below.drew ?_ | with_reducible refine Below.drewN ?_ _ | with_reducible refine Below.alloc1 ?_ _ | with_reducible refine Below.setCell1 ?_ (by first | omega | (simp; done) | (simp; omega)) _ | with_reducible refine Below.step ?_ (by with_reducible assumption)))
  have kp : Bk w1 w.heap.size 89 [.int .u8 p0, .int .u8 p1, .int .u8 p2, .int .u16 p3] := by subst hV; (repeat (first | with_reducible exact Bk.new' _ _ _ _ (by simp; done) | with_reducible assumption | with_reducible refine Bk.alloc ?_ _ | with_reducible refine Bk.drew ?_ | with_reducible refine Bk.drewN ?_ _ | with_reducible refine Bk.step ?_ (by with_reducible assumption) | with_reducible refine Bk.far ?_ (by first | omega | (simp; done) | (simp; omega)) _))
  clear hV
  go_upto_region 3 with fail
  go_wp2_with fail
  refine (admit_Usual_any _).mono ?_; rintro e y1 ⟨rfl, hx⟩
  replace kp := kp.step hx; replace hb : Below w.heap.size w y1 := hb.step hx
  have hcw : w.heap.size ≤ y1.heap.size := hb.size
  have hpc := kp.lt; clear hx
  have kz := Bk.new y1 44 [.int .i64 0, .int .i64 0, .int .i64 0, .int .i64 0, .int .i64 0, .int .i64 0, .int .i64 0, .int .i64 0, .int .i64 0, .int .i64 0, .int .i64 0, .int .i64 0, .int .i64 0, .int .i64 0, .int .i64 0, .int .i64 0, .int .i64 0, .int .i64 0, .int .i64 0]
  go_upto_region 4 with (first | (refine wpList_store_row rfl 44 _ _ rfl _ (acC 8 2 3 1 (u3 50 75 90) (u3 40 60 80) 5 uLo uHi).toArray rfl rfl _ _ kz (by kernel_rfl) (by kernel_rfl) (by kernel_rfl) ?_))
  have kc := kz.row (acC 8 2 3 1 (u3 50 75 90) (u3 40 60 80) 5 uLo uHi)
  have hy := setRow_below (Below.alloc1 (Below.refl y1.heap.size y1) (.cells ([.int .i64 0, .int .i64 0, .int .i64 0, .int .i64 0, .int .i64 0, .int .i64 0, .int .i64 0, .int .i64 0, .int .i64 0, .int .i64 0, .int .i64 0, .int .i64 0, .int .i64 0, .int .i64 0, .int .i64 0, .int .i64 0, .int .i64 0, .int .i64 0, .int .i64 0] : List Value).toArray 44)) (Nat.le_refl _) (acC 8 2 3 1 (u3 50 75 90) (u3 40 60 80) 5 uLo uHi).toArray
  generalize hV : World.setRow _ _ _ = w4 at kc hy ⊢
  replace kp := kp.step hy; replace hb := hb.step hy
  clear hV hy kz
  have lc := kc.lt
  generalize y1.heap.size = gc at *
  have G1 : Hid (bGood 8 2 = true) := rfl
  have G2 : Hid (bGood 3 1 = true) := rfl
  have hN := fun W => admit_New_any (mkC 8 2 3 1) W
  rw [aNew_mk G1.out G2.out] at hN
  go_wp2_with (first | (refine wpList_load_row rfl 44 _ rfl _ rfl _ _ (0, 0) _ kc Try.underlying44 rfl (by kernel_rfl) ?_))
  refine (hN _).mono ?_; rintro e y5 ⟨rfl, hx⟩
  replace kc := kc.step hx; replace hb := hb.step hx; replace kp := kp.step hx
  clear hx hN
  have kz := Bk.new y5 51 [.int .i64 0, .int .i64 0, .slice none 0 0, .int .i64 0, .int .i64 0, .int .i64 0, .int .i64 0, .int .i64 0]
  go_upto_region 5 with (first | (refine wpList_store_row rfl 51 _ _ rfl _ (azC 8 0 none 0 0 0 0 (-1) 0 0).toArray rfl rfl _ _ kz (by kernel_rfl) (by kernel_rfl) (by kernel_rfl) ?_))
  have ks := kz.row (azC 8 0 none 0 0 0 0 (-1) 0 0)
  have hy := setRow_below (Below.alloc1 (Below.refl y5.heap.size y5) (.cells ([.int .i64 0, .int .i64 0, .slice none 0 0, .int .i64 0, .int .i64 0, .int .i64 0, .int .i64 0, .int .i64 0] : List Value).toArray 51)) (Nat.le_refl _) (azC 8 0 none 0 0 0 0 (-1) 0 0).toArray
  generalize hV : World.setRow _ _ _ = w6 at ks hy ⊢
  replace kc := kc.step hy; replace kp := kp.step hy; replace hb := hb.step hy
  clear hV hy kz
  go_upto_region 8 with (first | (refine wpList_load_row rfl 44 _ rfl _ rfl _ _ (0, 0) _ kc Try.underlying44 rfl (by kernel_rfl) ?_) | (refine wpList_load_row rfl 51 _ rfl _ rfl _ _ (0, 0) _ ks Try.underlying51 rfl (by kernel_rfl) ?_) | (refine wpList_buildG 85 _ rfl (runC (mkC 8 2 3 1) ⟨8, 0, [], 0, 0, -1, 0, 0⟩ none 0 none 0 0 0).toArray (by kernel_rfl) (by kernel_rfl) ?_))
  generalize hV : World.alloc w6 _ = w7
  have kr : Bk w7 w6.heap.size 85 (runC (mkC 8 2 3 1) ⟨8, 0, [], 0, 0, -1, 0, 0⟩ none 0 none 0 0 0) := by subst hV; exact Bk.new' _ _ _ _ rfl
  have hy : Below w6.heap.size w6 w7 := by subst hV; (repeat (first | with_reducible exact Below.refl _ _ | with_reducible assumption | with_reducible refine Below.drew ?_ | with_reducible refine Below.drewN ?_ _ | with_reducible refine Below.alloc1 ?_ _ | with_reducible refine Below.setCell1 ?_ (by first | omega | (simp; done) | (simp; omega)) _ | with_reducible refine Below.step ?_ (by with_reducible assumption)))
  have hgw : w.heap.size ≤ w6.heap.size := hb.size
  have hgc := kc.lt; have hgp := kp.lt; replace kc := kc.step hy; replace hb := hb.step hy; replace kp := kp.step hy
  clear hV hy ks
  have hR0 : RunAt w7 w6.heap.size (mkC 8 2 3 1) ⟨8, 0, [], 0, 0, -1, 0, 0⟩ [] 0 none 0 none 0 := ⟨kr, Rd.nil, TyA.none _ _, World.ownsRow_nil _ _ _ _⟩
  generalize w6.heap.size = g at *
  have HR0 := hide (Rn.init (b1 := 8) (r1 := 2) (b2 := 3) (r2 := 1) G1.out G2.out)
  clear kr
  go_wp2_with fail
  go_loopw [11] (fun iv wr => ∃ (k : Nat) (x : AS) (ins : List (Int × Int)) (f : Nat → Int × Int) (N : Int) (A2 : Option Addr) (d2 : Nat) (I : Option Addr) (cap : Nat), k ≤ l.length ∧ iv = .int .i64 k ∧ RunAt wr g (mkC 8 2 3 1) x ins N A2 d2 I cap ∧ Hid (Rn 8 2 3 1 x ins N (2 * k) f) ∧ Bk wr gc 44 (acC 8 2 3 1 (u3 50 75 90) (u3 40 60 80) 5 uLo uHi) ∧ Bk wr w.heap.size 89 [.int .u8 p0, .int .u8 p1, .int .u8 p2, .int .u16 p3] ∧ Below w.heap.size w wr) (fun iv _ => l.length - (intOf iv).toNat)
  case atStart => exact ⟨0, _, _, _, _, _, _, _, _, Nat.zero_le _, rfl, hR0, HR0, kc, kp, hb⟩
  case round =>
    clear hR0 HR0 kc kp hb
    obtain ⟨k, x, ins, f, N, A2, d2, I, cap, hk, rfl, hR, HR, kc, kp, hbr⟩ := hrel
    by_cases hlt : k < l.length
    · obtain ⟨ad, rfl, hadb, c0, c1, c2, c3⟩ := (ha.below hbr).stps hlt
      have hg := HLB.out _ (List.getElem_mem hlt)
      generalize l[k] = q at *
      obtain ⟨q0, q1, q2, q3⟩ := q
      dsimp only at *
      have lr := hR.bk.lt
      have hst := run_step_any HR.out (by omega) A2 d2 I cap g q0 q1 q2 q3 hg.1 hg.2.1 hg.2.2.1 hg.2.2.2 wr hR
      go_wp2_with fail
      refine hst.mono ?_; rintro e x1 ⟨rfl, x', ins', f', A3, d3, I3, cap3, hR', hRn', hb'⟩
      have HR' := hide hRn'
      clear hRn' hst
      go_wp2_with fail
      go_roundw
      case rel => exact ⟨k + 1, x', ins', f', _, A3, d3, I3, cap3, by omega, by go_num, hR', HR', kc.below hb' (by omega), kp.below hb' (by omega), hbr.trans (hb'.mono (by omega))⟩
      case measure => simp [intOf]; omega
    · skip
      have hxl := eCheck_len HR.out.jn.hk
      obtain ⟨kr, rA, tA, oI⟩ := hR
      have hb : Below w.heap.size w wr := hbr
      clear hbr oI
      have e10 : p2.tmod 10 = p2 % 10 := Int.tmod_eq_emod_of_nonneg hp2.1
      have b10 : 0 ≤ p2 % 10 ∧ p2 % 10 ≤ 9 := by omega
      have HR2 := hide (HR.out.grows (by omega) hp0.1 hp0.2)
      have hNb := HR.out.hN
      have l_kr := kr.lt
      have l_kp := kp.lt
      have l_kc := kc.lt
      have kp_0 := kp.cell 0; have kp_2 := kp.cell 2; have kp_3 := kp.cell 3; simp only [List.getElem?_cons_succ, List.getElem?_cons_zero, mkC] at kp_0 kp_2 kp_3
      have kr_22 := kr.cell 22; have kr_28 := kr.cell 28; simp only [List.getElem?_cons_succ, List.getElem?_cons_zero, mkC] at kr_22 kr_28
      go_upto_region 12 with fail
      (refine wp_region_qb (by kernel_rfl) (by kernel_rfl) (fun kq => ?_); (try dsimp only [List.append]); (repeat (go_big_quiet_step ((fail)))); refine wpQuiet_nil ?_; intro wq hwq; have hbq := below_of_class hwq; clear hwq kq)
      obtain ⟨s, hs, es⟩ : ∃ s : Nat, s < 10 ∧ p2 % 10 = (s : Int) := ⟨(p2 % 10).toNat, by omega, by omega⟩
      rw [es]
      clear es e10 b10
      replace kr := kr.step hbq; replace kp := kp.step hbq; replace kc := kc.step hbq; replace rA := rA.step hbq; replace tA := tA.step hbq; replace hb : Below w.heap.size w wq := hb.step hbq
      clear kp_0 kp_2 kp_3
      clear kr_22 kr_28
      have kp_0 := kp.cell 0; have kp_2 := kp.cell 2; have kp_3 := kp.cell 3; simp only [List.getElem?_cons_succ, List.getElem?_cons_zero, mkC] at kp_0 kp_2 kp_3
      replace l_kp := kp.lt
      have kr_22 := kr.cell 22; have kr_28 := kr.cell 28; simp only [List.getElem?_cons_succ, List.getElem?_cons_zero, mkC] at kr_22 kr_28
      replace l_kr := kr.lt
      clear hbq
      replace l_kc := kc.lt
      clear hNb
      generalize N + p0 = M at *
      obtain ⟨y, E, H1, H2, hA1, hA2, hyl, hl3, hway⟩ := HR2.out.draws (by omega) hs p3 other
      have HW := hide hway
      have hd1 : 0 ≤ p3 ∧ p3 ≤ 18446744073709551615 := by omega
      have hd2 : 0 ≤ other ∧ other ≤ 18446744073709551615 := by omega
      have hAs1 := fun W h => admit_Ask_ty (mkC 8 2 3 1) x A2 d2 s M p3 hd1 W hxl h
      have hAs2 := fun W h => admit_Ask_ty (mkC 8 2 3 1) x A2 d2 s M other hd2 W hxl h
      rw [hA1] at hAs1
      rw [hA2] at hAs2
      clear hA1 hA2 hway HR2 HR
      obtain ⟨w13, rfl⟩ : ∃ wn : World, wn = wq := ⟨_, rfl⟩
      go_upto_region 13 with fail
      refine wp_region_ml 16 13 [(10, AskT 146 y E H1), (14, NewBk w13.heap.size 51 [.int .i64 0, .int .i64 0, .slice none 0 0, .int .i64 0, .int .i64 0, .int .i64 0, .int .i64 0, .int .i64 0]), (15, NewBk w13.heap.size 56 [.int .i64 0, .int .i64 0])] (by kernel_rfl) (by kernel_rfl) (by kernel_rfl) (by kernel_rfl) (by kernel_rfl) (sts_cons (sts_ask _ _ _ _) (sts_cons (sts_newBk _ _ _) (sts_cons (sts_newBk _ _ _) sts_nil))) (fun _ d _ _ _ h => by cases d <;> exact h) (fun kq => ?_); (try dsimp only [List.append, lateL, lateOp, List.getElem?_cons_succ, List.getElem?_cons_zero, List.set_cons_succ, List.set_cons_zero, List.take])
      (refine wpM_load _ 44 _ rfl rfl _ 0 rfl ((acC 8 2 3 1 (u3 50 75 90) (u3 40 60 80) 5 uLo uHi)) (fun x hx => by obtain ⟨px, rfl⟩ := hx; exact (kc.step (below_regrown _ _ _)).range 0 _ rfl) _ Try.underlying44 rfl (by kernel_rfl) (later_some _) (by kernel_rfl) (by kernel_rfl) ?_; intro K hK; go_big_quiet_op; refine hK _ ?_; clear hK K)
      iterate 3 (refine wpM_via (by kernel_rfl) ?_; go_big_quiet_step (fail); refine wpQuiet_nil ?_)
      (refine wpM_load _ 51 _ rfl rfl _ 19 rfl ((azC x.t x.a A2 x.es.length d2 x.l x.s x.v x.le x.se)) (fun x hx => by obtain ⟨px, rfl⟩ := hx; exact (kr.step (below_regrown _ _ _)).range 19 _ rfl) _ Try.underlying51 rfl (by kernel_rfl) (later_some _) (by kernel_rfl) (by kernel_rfl) ?_; intro K hK; go_big_quiet_op; refine hK _ ?_; clear hK K)
      iterate 5 (refine wpM_via (by kernel_rfl) ?_; go_big_quiet_step (fail); refine wpQuiet_nil ?_)
      (refine wpM_spec _ (AskT 146 y E H1) (by kernel_rfl) (by kernel_rfl) rfl (later_some _) ?_ ?_; (focus (intro x hx hk; obtain ⟨px, rfl⟩ := hx; go_simp; (first | with_reducible refine mUpon_enter ?_ | with_reducible refine mUpon_value ?_); go_at_call 10; exact Calls.mask ((hAs1 _ (rA.step (below_regrown _ _ _))).mono fun _ _ ⟨A', d', e, r, _, b, t⟩ => ⟨A', d', e, r, b, t (tA.step (below_regrown _ _ _))⟩))); intro v hv K hK; obtain ⟨A5, d5, rfl⟩ := hv; go_big_quiet_op; refine hK _ ?_; clear hK K)
      iterate 3 (refine wpM_via (by kernel_rfl) ?_; go_big_quiet_step (fail); refine wpQuiet_nil ?_)
      (refine wpM_spec _ (NewBk w13.heap.size 51 [.int .i64 0, .int .i64 0, .slice none 0 0, .int .i64 0, .int .i64 0, .int .i64 0, .int .i64 0, .int .i64 0]) (by kernel_rfl) (by kernel_rfl) rfl (later_some _) ?_ ?_; (focus (intro x hx hk; obtain ⟨px, rfl⟩ := hx; go_simp; (first | with_reducible refine mUpon_enter ?_ | with_reducible refine mUpon_value ?_); exact newBk_new (by simp [Go.Sort.grow]) rfl (by simp [Go.Sort.grow, redrawn]))); intro v hv K hK; obtain ⟨g14, rfl, hg9⟩ := hv; go_big_quiet_op; refine hK _ ?_; clear hK K)
      (refine wpM_spec _ (NewBk w13.heap.size 56 [.int .i64 0, .int .i64 0]) (by kernel_rfl) (by kernel_rfl) rfl (later_some _) ?_ ?_; (focus (intro x hx hk; obtain ⟨px, rfl⟩ := hx; go_simp; (first | with_reducible refine mUpon_enter ?_ | with_reducible refine mUpon_value ?_); exact newBk_new (by simp [Go.Sort.grow]) rfl (by simp [Go.Sort.grow, redrawn]))); intro v hv K hK; obtain ⟨g15, rfl, hg10⟩ := hv; go_big_quiet_op; refine hK _ ?_; clear hK K)
      refine wpM_nil ?_; intro wq hwq hfq; have hbq := below_of_class hwq; clear hwq kq; (try dsimp only [List.drop])
      have q9 : Bk wq g14 51 [.int .i64 0, .int .i64 0, .slice none 0 0, .int .i64 0, .int .i64 0, .int .i64 0, .int .i64 0, .int .i64 0] := newBk_of (base := w13.heap.size) hfq.2.1
      have q10 : Bk wq g15 56 [.int .i64 0, .int .i64 0] := newBk_of (base := w13.heap.size) hfq.1
      obtain ⟨rY, tY⟩ := ask_of hfq.2.2.1
      have hne : g15 ≠ g14 := fun e => by subst e; exact Bk.apart q9 q10 (by decide)
      clear hfq
      have r10 := q10.rowFar hne (azC y.t y.a A5 y.es.length d5 y.l y.s y.v y.le y.se).toArray
      (refine wpList_store_row rfl 51 _ _ rfl _ (azC y.t y.a A5 y.es.length d5 y.l y.s y.v y.le y.se).toArray rfl rfl _ _ q9 (by kernel_rfl) (by kernel_rfl) (by kernel_rfl) ?_)
      (refine wpList_store_row rfl 56 _ _ rfl _ ([.int .i64 E, .int .i64 H1]).toArray rfl rfl _ _ r10 (by kernel_rfl) (by kernel_rfl) (by kernel_rfl) ?_)
      dsimp only [Act.put]
      have k14 := (q9.row (azC y.t y.a A5 y.es.length d5 y.l y.s y.v y.le y.se)).rowFar (g := g15) (Ne.symm hne) ([.int .i64 E, .int .i64 H1] : List Value).toArray
      have k15 := r10.row [.int .i64 E, .int .i64 H1]
      replace rY := (rY.rowFar (tY.ne q9 (by decide)) (azC y.t y.a A5 y.es.length d5 y.l y.s y.v y.le y.se).toArray).rowFar (tY.ne q10 (by decide)) ([.int .i64 E, .int .i64 H1] : List Value).toArray
      have hy := setRow_below (setRow_below hbq hg9 (azC y.t y.a A5 y.es.length d5 y.l y.s y.v y.le y.se).toArray) hg10 ([.int .i64 E, .int .i64 H1] : List Value).toArray
      generalize hV : World.setRow (World.setRow _ _ _) _ _ = wq at k14 k15 rY hy ⊢
      replace kr := kr.step hy; replace kp := kp.step hy; replace kc := kc.step hy; replace rA := rA.step hy; replace tA := tA.step hy; replace hb : Below w.heap.size w wq := hb.step hy
      clear kp_0 kp_2 kp_3
      clear kr_22 kr_28
      have kp_0 := kp.cell 0; have kp_2 := kp.cell 2; have kp_3 := kp.cell 3; simp only [List.getElem?_cons_succ, List.getElem?_cons_zero, mkC] at kp_0 kp_2 kp_3
      replace l_kp := kp.lt
      have kr_22 := kr.cell 22; have kr_28 := kr.cell 28; simp only [List.getElem?_cons_succ, List.getElem?_cons_zero, mkC] at kr_22 kr_28
      replace l_kr := kr.lt
      clear hy
      clear hV hbq q9 q10 r10 hne hg9 hg10 tY
      clear hAs1
      replace l_kc := kc.lt
      obtain ⟨w14, rfl⟩ : ∃ wn : World, wn = wq := ⟨_, rfl⟩
      go_upto_region 14 with fail
      refine wp_region_ml 15 12 [(9, AskT 146 y E H2), (13, NewBk w14.heap.size 51 [.int .i64 0, .int .i64 0, .slice none 0 0, .int .i64 0, .int .i64 0, .int .i64 0, .int .i64 0, .int .i64 0]), (14, NewBk w14.heap.size 56 [.int .i64 0, .int .i64 0])] (by kernel_rfl) (by kernel_rfl) (by kernel_rfl) (by kernel_rfl) (by kernel_rfl) (sts_cons (sts_ask _ _ _ _) (sts_cons (sts_newBk _ _ _) (sts_cons (sts_newBk _ _ _) sts_nil))) (fun _ d _ _ _ h => by cases d <;> exact h) (fun kq => ?_); (try dsimp only [List.append, lateL, lateOp, List.getElem?_cons_succ, List.getElem?_cons_zero, List.set_cons_succ, List.set_cons_zero, List.take])
      (refine wpM_load _ 44 _ rfl rfl _ 0 rfl ((acC 8 2 3 1 (u3 50 75 90) (u3 40 60 80) 5 uLo uHi)) (fun x hx => by obtain ⟨px, rfl⟩ := hx; exact (kc.step (below_regrown _ _ _)).range 0 _ rfl) _ Try.underlying44 rfl (by kernel_rfl) (later_some _) (by kernel_rfl) (by kernel_rfl) ?_; intro K hK; go_big_quiet_op; refine hK _ ?_; clear hK K)
      iterate 3 (refine wpM_via (by kernel_rfl) ?_; go_big_quiet_step (fail); refine wpQuiet_nil ?_)
      (refine wpM_load _ 51 _ rfl rfl _ 19 rfl ((azC x.t x.a A2 x.es.length d2 x.l x.s x.v x.le x.se)) (fun x hx => by obtain ⟨px, rfl⟩ := hx; exact (kr.step (below_regrown _ _ _)).range 19 _ rfl) _ Try.underlying51 rfl (by kernel_rfl) (later_some _) (by kernel_rfl) (by kernel_rfl) ?_; intro K hK; go_big_quiet_op; refine hK _ ?_; clear hK K)
      iterate 4 (refine wpM_via (by kernel_rfl) ?_; go_big_quiet_step (fail); refine wpQuiet_nil ?_)
      (refine wpM_spec _ (AskT 146 y E H2) (by kernel_rfl) (by kernel_rfl) rfl (later_some _) ?_ ?_; (focus (intro x hx hk; obtain ⟨px, rfl⟩ := hx; go_simp; (first | with_reducible refine mUpon_enter ?_ | with_reducible refine mUpon_value ?_); go_at_call 10; exact Calls.mask ((hAs2 _ (rA.step (below_regrown _ _ _))).mono fun _ _ ⟨A', d', e, r, _, b, t⟩ => ⟨A', d', e, r, b, t (tA.step (below_regrown _ _ _))⟩))); intro v hv K hK; obtain ⟨A6, d6, rfl⟩ := hv; go_big_quiet_op; refine hK _ ?_; clear hK K)
      iterate 3 (refine wpM_via (by kernel_rfl) ?_; go_big_quiet_step (fail); refine wpQuiet_nil ?_)
      (refine wpM_spec _ (NewBk w14.heap.size 51 [.int .i64 0, .int .i64 0, .slice none 0 0, .int .i64 0, .int .i64 0, .int .i64 0, .int .i64 0, .int .i64 0]) (by kernel_rfl) (by kernel_rfl) rfl (later_some _) ?_ ?_; (focus (intro x hx hk; obtain ⟨px, rfl⟩ := hx; go_simp; (first | with_reducible refine mUpon_enter ?_ | with_reducible refine mUpon_value ?_); exact newBk_new (by simp [Go.Sort.grow]) rfl (by simp [Go.Sort.grow, redrawn]))); intro v hv K hK; obtain ⟨g16, rfl, hg9⟩ := hv; go_big_quiet_op; refine hK _ ?_; clear hK K)
      (refine wpM_spec _ (NewBk w14.heap.size 56 [.int .i64 0, .int .i64 0]) (by kernel_rfl) (by kernel_rfl) rfl (later_some _) ?_ ?_; (focus (intro x hx hk; obtain ⟨px, rfl⟩ := hx; go_simp; (first | with_reducible refine mUpon_enter ?_ | with_reducible refine mUpon_value ?_); exact newBk_new (by simp [Go.Sort.grow]) rfl (by simp [Go.Sort.grow, redrawn]))); intro v hv K hK; obtain ⟨g17, rfl, hg10⟩ := hv; go_big_quiet_op; refine hK _ ?_; clear hK K)
      refine wpM_nil ?_; intro wq hwq hfq; have hbq := below_of_class hwq; clear hwq kq; (try dsimp only [List.drop])
      have q9 : Bk wq g16 51 [.int .i64 0, .int .i64 0, .slice none 0 0, .int .i64 0, .int .i64 0, .int .i64 0, .int .i64 0, .int .i64 0] := newBk_of (base := w14.heap.size) hfq.2.1
      have q10 : Bk wq g17 56 [.int .i64 0, .int .i64 0] := newBk_of (base := w14.heap.size) hfq.1
      obtain ⟨rZ, tY⟩ := ask_of hfq.2.2.1
      have hne : g17 ≠ g16 := fun e => by subst e; exact Bk.apart q9 q10 (by decide)
      clear hfq
      have r10 := q10.rowFar hne (azC y.t y.a A6 y.es.length d6 y.l y.s y.v y.le y.se).toArray
      (refine wpList_store_row rfl 51 _ _ rfl _ (azC y.t y.a A6 y.es.length d6 y.l y.s y.v y.le y.se).toArray rfl rfl _ _ q9 (by kernel_rfl) (by kernel_rfl) (by kernel_rfl) ?_)
      (refine wpList_store_row rfl 56 _ _ rfl _ ([.int .i64 E, .int .i64 H2]).toArray rfl rfl _ _ r10 (by kernel_rfl) (by kernel_rfl) (by kernel_rfl) ?_)
      dsimp only [Act.put]
      have k16 := (q9.row (azC y.t y.a A6 y.es.length d6 y.l y.s y.v y.le y.se)).rowFar (g := g17) (Ne.symm hne) ([.int .i64 E, .int .i64 H2] : List Value).toArray
      have k17 := r10.row [.int .i64 E, .int .i64 H2]
      replace rZ := (rZ.rowFar (tY.ne q9 (by decide)) (azC y.t y.a A6 y.es.length d6 y.l y.s y.v y.le y.se).toArray).rowFar (tY.ne q10 (by decide)) ([.int .i64 E, .int .i64 H2] : List Value).toArray
      have hy := setRow_below (setRow_below hbq hg9 (azC y.t y.a A6 y.es.length d6 y.l y.s y.v y.le y.se).toArray) hg10 ([.int .i64 E, .int .i64 H2] : List Value).toArray
      generalize hV : World.setRow (World.setRow _ _ _) _ _ = wq at k16 k17 rZ hy ⊢
      replace kr := kr.step hy; replace kp := kp.step hy; replace kc := kc.step hy; replace k14 := k14.step hy; replace k15 := k15.step hy; replace rA := rA.step hy; replace tA := tA.step hy; replace rY := rY.step hy; replace hb : Below w.heap.size w wq := hb.step hy
      clear kp_0 kp_2 kp_3
      clear kr_22 kr_28
      have kp_0 := kp.cell 0; have kp_2 := kp.cell 2; have kp_3 := kp.cell 3; simp only [List.getElem?_cons_succ, List.getElem?_cons_zero, mkC] at kp_0 kp_2 kp_3
      replace l_kp := kp.lt
      have kr_22 := kr.cell 22; have kr_28 := kr.cell 28; simp only [List.getElem?_cons_succ, List.getElem?_cons_zero, mkC] at kr_22 kr_28
      replace l_kr := kr.lt
      clear hy
      clear hV hbq q9 q10 r10 hne hg9 hg10 tY
      clear hAs2
      replace l_kc := kc.lt
      have l14 := k14.lt; have l15 := k15.lt; have l16 := k16.lt; have l17 := k17.lt
      have k15_0 := k15.cell 0; have k15_1 := k15.cell 1; simp only [List.getElem?_cons_succ, List.getElem?_cons_zero, mkC] at k15_0 k15_1
      have k17_0 := k17.cell 0; have k17_1 := k17.cell 1; simp only [List.getElem?_cons_succ, List.getElem?_cons_zero, mkC] at k17_0 k17_1
      go_wp2_with (first | (refine wpList_load_row rfl 51 _ rfl _ rfl _ _ (0, 0) _ k14 Try.underlying51 rfl (by kernel_rfl) ?_) | (refine wpList_load_row rfl 51 _ rfl _ rfl _ _ (0, 0) _ k16 Try.underlying51 rfl (by kernel_rfl) ?_))
      refine ((admit_Same_any y y A5 A6 d5 d6 _ hyl rY rZ).lit (congrArg Value.bool (aSame_self y))).mono ?_; rintro e y7 ⟨rfl, hx⟩
      clear k15_0 k15_1 k17_0 k17_1
      replace kr := kr.step hx; replace kp := kp.step hx; replace kc := kc.step hx; replace k15 := k15.step hx; replace k17 := k17.step hx; replace hb : Below w.heap.size w y7 := hb.step hx
      clear kp_0 kp_2 kp_3
      clear kr_22 kr_28
      have kp_0 := kp.cell 0; have kp_2 := kp.cell 2; have kp_3 := kp.cell 3; simp only [List.getElem?_cons_succ, List.getElem?_cons_zero, mkC] at kp_0 kp_2 kp_3
      replace l_kp := kp.lt
      have kr_22 := kr.cell 22; have kr_28 := kr.cell 28; simp only [List.getElem?_cons_succ, List.getElem?_cons_zero, mkC] at kr_22 kr_28
      replace l_kr := kr.lt
      clear hx
      clear k14 k16 rY rZ rA tA l14 l16
      replace l_kc := kc.lt
      replace l15 := k15.lt; replace l17 := k17.lt
      have k15_0 := k15.cell 0; have k15_1 := k15.cell 1; simp only [List.getElem?_cons_succ, List.getElem?_cons_zero, mkC] at k15_0 k15_1
      have k17_0 := k17.cell 0; have k17_1 := k17.cell 1; simp only [List.getElem?_cons_succ, List.getElem?_cons_zero, mkC] at k17_0 k17_1
      rcases HW.out with ⟨hE, hH1, hH2⟩ | ⟨hE, hH1, hH2⟩
      · subst hE; subst hH1; subst hH2
        have hE1 := fun W => ver_eql 0 0 0 0 W
        clear HW
        go_wp2_with fail
        refine (awake18_any _).mono ?_; rintro e y9 ⟨rfl, hx⟩
        go_wp2
        go_ret
        exact ⟨rfl, hb.step hx⟩
      · have b0 : (E == 0) = false := by simpa using hE
        clear HW
        have hlv : x.l = ((x.l.toNat : Nat) : Int) := by omega
        have hwd := hint_width hl3
        generalize x.l.toNat = n at *
        rw [hlv] at hwd hH1 hH2 kr_22
        have hn4 : n < 4 := by omega
        clear hlv hl3
        have hlo : y7.cell? ⟨gc, 11 + n, none⟩ = some (.int .i64 (uLo n)) := by
          have h4 : n = 0 ∨ n = 1 ∨ n = 2 ∨ n = 3 := by omega
          rcases h4 with rfl | rfl | rfl | rfl <;> exact (kc.cell (11 + _)).trans rfl
        have hUs : ∀ W, (Instr.field 31 aUsual.V 0).run Try.prog W = .ok (.agg #[.int .i64 8, .int .i64 2]) W := fun W => by kernel_rfl
        have hUs2 : ∀ W, (Instr.field 23 (.agg #[.int .i64 8, .int .i64 2]) 0).run Try.prog W = .ok (.int .i64 8) W := fun W => by kernel_rfl
        have hWd := fun W => jitter_Width_any uLo uHi n W
        have hub : 0 ≤ p3 % jWidth uLo uHi n ∧ p3 % jWidth uLo uHi n < jWidth uLo uHi n := ⟨Int.emod_nonneg _ (by omega), Int.emod_lt_of_pos _ (by omega)⟩
        have hvb : 0 ≤ other % jWidth uLo uHi n ∧ other % jWidth uLo uHi n < jWidth uLo uHi n := ⟨Int.emod_nonneg _ (by omega), Int.emod_lt_of_pos _ (by omega)⟩
        generalize jWidth uLo uHi n = Wd at *
        generalize hlq : uLo n = lo at *
        clear hlq
        have z1 := IntWalk.i64_in (H1 - lo) (by omega)
        have z2 := IntWalk.i64_in (H2 - lo) (by omega)
        have z5 : (H1 - lo == p3 % Wd) = true := by simpa using hH1
        have z6 : (H2 - lo == other % Wd) = true := by simpa using hH2
        have z7 : ¬ Wd = 0 := by omega
        clear hH1 hH2
        go_upto_region 20 with fail
        clear hlo
        refine wp_region_m [(8, only (.int .i64 Wd))] (by kernel_rfl) (by kernel_rfl) (by kernel_rfl) (by kernel_rfl) (sts_cons (sts_only _) sts_nil) (fun kq => ?_); (try dsimp only [List.append])
        iterate 1 (refine wpM_via (by kernel_rfl) ?_; go_big_quiet_step (fail); refine wpQuiet_nil ?_)
        (refine wpM_load _ 42 _ rfl rfl _ 11 rfl (([.int .i64 (uLo 0), .int .i64 (uLo 1), .int .i64 (uLo 2), .int .i64 (uLo 3), .int .i64 (uHi 0), .int .i64 (uHi 1), .int .i64 (uHi 2), .int .i64 (uHi 3)])) (fun x hx => by obtain ⟨px, rfl⟩ := hx; exact (kc.step (below_regrown _ _ _)).range 11 _ rfl) _ Try.underlying42 rfl (by kernel_rfl) (later_some _) (by kernel_rfl) (by kernel_rfl) ?_; intro K hK; go_big_quiet_op; refine hK _ ?_; clear hK K)
        iterate 6 (refine wpM_via (by kernel_rfl) ?_; go_big_quiet_step (fail); refine wpQuiet_nil ?_)
        (refine wpM_only _ (.int .i64 Wd) (by kernel_rfl) (by kernel_rfl) rfl (later_some _) ?_ ?_; (focus (intro x hx hk; obtain ⟨px, rfl⟩ := hx; go_simp; (first | with_reducible refine mUpon_enter ?_ | with_reducible refine mUpon_value ?_); go_at_call 27; exact (hWd _).mo)); intro K hK; go_big_quiet_op; refine hK _ ?_; clear hK K)
        (repeat (refine wpM_via (by kernel_rfl) ?_; go_big_quiet_step (fail); refine wpQuiet_nil ?_))
        refine wpM_nil ?_; intro wq hwq hfq; have hbq := below_of_class hwq; clear hwq kq; (try dsimp only [List.drop])
        clear k15_0 k15_1 k17_0 k17_1 hWd
        replace kr := kr.step hbq; replace kp := kp.step hbq; replace kc := kc.step hbq; replace k15 := k15.step hbq; replace k17 := k17.step hbq; replace hb : Below w.heap.size w wq := hb.step hbq
        clear kp_0 kp_2 kp_3
        clear kr_22 kr_28
        have kp_0 := kp.cell 0; have kp_2 := kp.cell 2; have kp_3 := kp.cell 3; simp only [List.getElem?_cons_succ, List.getElem?_cons_zero, mkC] at kp_0 kp_2 kp_3
        replace l_kp := kp.lt
        have kr_22 := kr.cell 22; have kr_28 := kr.cell 28; simp only [List.getElem?_cons_succ, List.getElem?_cons_zero, mkC] at kr_22 kr_28
        replace l_kr := kr.lt
        clear hbq
        replace l_kc := kc.lt
        replace l15 := k15.lt; replace l17 := k17.lt
        have k15_0 := k15.cell 0; have k15_1 := k15.cell 1; simp only [List.getElem?_cons_succ, List.getElem?_cons_zero, mkC] at k15_0 k15_1
        have k17_0 := k17.cell 0; have k17_1 := k17.cell 1; simp only [List.getElem?_cons_succ, List.getElem?_cons_zero, mkC] at k17_0 k17_1
        have kc_0 := kc.cell 0; simp only [List.getElem?_cons_succ, List.getElem?_cons_zero, mkC] at kc_0
        obtain ⟨w21, rfl⟩ : ∃ w21 : World, w21 = wq := ⟨_, rfl⟩
        go_upto_region 21 with fail
        refine wp_region_m [(22, only aUsual.V), (31, only (.bool true))] (by kernel_rfl) (by kernel_rfl) (by kernel_rfl) (by kernel_rfl) (sts_cons (sts_only _) (sts_cons (sts_only _) sts_nil)) (fun kq => ?_); (try dsimp only [List.append])
        (repeat (refine wpM_via (by kernel_rfl) ?_; go_big_quiet_step (fail); refine wpQuiet_nil ?_))
        (refine wpM_only _ (aUsual.V) (by kernel_rfl) (by kernel_rfl) rfl (later_some _) ?_ ?_; (focus (intro x hx hk; obtain ⟨px, rfl⟩ := hx; go_simp; (first | with_reducible refine mUpon_enter ?_ | with_reducible refine mUpon_value ?_); go_at_call 28; exact (r18_Usual_any _).mo)); intro K hK; go_big_quiet_op; refine hK _ ?_; clear hK K)
        (repeat (refine wpM_via (by kernel_rfl) ?_; go_big_quiet_step (fail); refine wpQuiet_nil ?_))
        (refine wpM_only _ (.bool true) (by kernel_rfl) (by kernel_rfl) rfl (later_some _) ?_ ?_; (focus (intro x hx hk; obtain ⟨px, rfl⟩ := hx; go_simp; (first | with_reducible refine mUpon_enter ?_ | with_reducible refine mUpon_value ?_); go_at_call 7; exact (awake18_any _).mo)); intro K hK; go_big_quiet_op; refine hK _ ?_; clear hK K)
        (repeat (refine wpM_via (by kernel_rfl) ?_; go_big_quiet_step (fail); refine wpQuiet_nil ?_))
        refine wpM_nil ?_; intro wq hwq hfq; have hbq := below_of_class hwq; clear hwq kq; (try dsimp only [List.drop])
        go_wp2
        go_ret
        exact ⟨rfl, hb.step hbq⟩
end Go.Proofs.Ytolpiaehleefbaa
