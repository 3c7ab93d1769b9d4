/- The walk of AdmitShut. -/
import Derived.Test.YtolpiaehleefbaaRun18b
import Derived.Test.YtolpiaehleefbaaStp18
import Derived.Test.YtolpiaehleefbaaShu18
import Derived.Test.YtolpiaehleefbaaAwake18
namespace Go.Proofs.Ytolpiaehleefbaa
open Go.RowKit Go.Sort
set_option linter.unusedSimpArgs false
set_option linter.unusedVariables false

set_option maxRecDepth 100000 in
set_option maxHeartbeats 16000000 in
theorem AdmitShut_walk (A : Option Addr) (c : Nat) (l : List (Int × Int × Int × Int)) (src draw : Int) (w : World) (hl : l.length ≤ maxLen) (hlb : (∀ x ∈ l, (0 ≤ x.1 ∧ x.1 ≤ 255) ∧ (0 ≤ x.2.1 ∧ x.2.1 ≤ 255) ∧ (0 ≤ x.2.2.1 ∧ x.2.2.1 ≤ 255) ∧ 0 ≤ x.2.2.2 ∧ x.2.2.2 ≤ 65535)) (ha : Rd w w.heap.size A (stpR l)) (hs : 0 ≤ src ∧ src ≤ 65535) (hdr : 0 ≤ draw ∧ draw ≤ 65535) :
    Calls Try.prog 5 #[.slice A l.length c, .int .u16 src, .int .u16 draw] w fun e w' => e = .returned (.bool true) ∧ Below w.heap.size w w' := by
  by_cases h50 : 30 < l.length
  · have g1 : (30 : Int) < (l.length : Int) := by omega
    go_enter Try.func5, Try.ntmps5
    go_wp2_with fail
    refine (awake18_any _).mono ?_; rintro e y1 ⟨rfl, hx2⟩
    go_wp2
    go_ret
    exact ⟨rfl, by (repeat (first | with_reducible exact Below.refl _ _ | with_reducible assumption | with_reducible refine Below.drew ?_ | with_reducible refine Below.drewN ?_ _ | with_reducible refine Below.alloc1 ?_ _ | with_reducible refine Below.setCell1 ?_ (by first | omega | (simp; done) | (simp; omega)) _ | with_reducible refine Below.step ?_ (by with_reducible assumption)))⟩
  have g1 : (l.length : Int) ≤ 30 := by omega
  have hll : l.length ≤ 30 := by omega
  have HLB := hide hlb
  clear hlb h50
  go_enter Try.func5, Try.ntmps5
  have hb : Below w.heap.size w w := Below.refl _ _
  go_upto_region 3 with fail
  go_wp2_with fail
  refine (admit_Usual_any _).mono ?_; rintro e y1 ⟨rfl, hx⟩
  replace hb : Below w.heap.size w y1 := hb.step hx
  have hcw : w.heap.size ≤ y1.heap.size := hb.size
  clear hx
  have kz := Bk.new y1 44 [.int .i64 0, .int .i64 0, .int .i64 0, .int .i64 0, .int .i64 0, .int .i64 0, .int .i64 0, .int .i64 0, .int .i64 0, .int .i64 0, .int .i64 0, .int .i64 0, .int .i64 0, .int .i64 0, .int .i64 0, .int .i64 0, .int .i64 0, .int .i64 0, .int .i64 0]
  go_upto_region 4 with (first | (refine wpList_store_row rfl 44 _ _ rfl _ (acC 8 2 3 1 (u3 50 75 90) (u3 40 60 80) 5 uLo uHi).toArray rfl rfl _ _ kz (by kernel_rfl) (by kernel_rfl) (by kernel_rfl) ?_))
  have kc := kz.row (acC 8 2 3 1 (u3 50 75 90) (u3 40 60 80) 5 uLo uHi)
  have hy := setRow_below (Below.alloc1 (Below.refl y1.heap.size y1) (.cells ([.int .i64 0, .int .i64 0, .int .i64 0, .int .i64 0, .int .i64 0, .int .i64 0, .int .i64 0, .int .i64 0, .int .i64 0, .int .i64 0, .int .i64 0, .int .i64 0, .int .i64 0, .int .i64 0, .int .i64 0, .int .i64 0, .int .i64 0, .int .i64 0, .int .i64 0] : List Value).toArray 44)) (Nat.le_refl _) (acC 8 2 3 1 (u3 50 75 90) (u3 40 60 80) 5 uLo uHi).toArray
  generalize hV : World.setRow _ _ _ = w4 at kc hy ⊢
  replace hb := hb.step hy
  clear hV hy kz
  have lc := kc.lt
  generalize y1.heap.size = gc at *
  have G1 : Hid (bGood 8 2 = true) := rfl
  have G2 : Hid (bGood 3 1 = true) := rfl
  have hN := fun W => admit_New_any (mkC 8 2 3 1) W
  rw [aNew_mk G1.out G2.out] at hN
  go_wp2_with (first | (refine wpList_load_row rfl 44 _ rfl _ rfl _ _ (0, 0) _ kc Try.underlying44 rfl (by kernel_rfl) ?_))
  refine (hN _).mono ?_; rintro e y5 ⟨rfl, hx⟩
  replace kc := kc.step hx; replace hb := hb.step hx
  clear hx hN
  have kz := Bk.new y5 51 [.int .i64 0, .int .i64 0, .slice none 0 0, .int .i64 0, .int .i64 0, .int .i64 0, .int .i64 0, .int .i64 0]
  go_upto_region 5 with (first | (refine wpList_store_row rfl 51 _ _ rfl _ (azC 8 0 none 0 0 0 0 (-1) 0 0).toArray rfl rfl _ _ kz (by kernel_rfl) (by kernel_rfl) (by kernel_rfl) ?_))
  have ks := kz.row (azC 8 0 none 0 0 0 0 (-1) 0 0)
  have hy := setRow_below (Below.alloc1 (Below.refl y5.heap.size y5) (.cells ([.int .i64 0, .int .i64 0, .slice none 0 0, .int .i64 0, .int .i64 0, .int .i64 0, .int .i64 0, .int .i64 0] : List Value).toArray 51)) (Nat.le_refl _) (azC 8 0 none 0 0 0 0 (-1) 0 0).toArray
  generalize hV : World.setRow _ _ _ = w6 at ks hy ⊢
  replace kc := kc.step hy; replace hb := hb.step hy
  clear hV hy kz
  go_upto_region 8 with (first | (refine wpList_load_row rfl 44 _ rfl _ rfl _ _ (0, 0) _ kc Try.underlying44 rfl (by kernel_rfl) ?_) | (refine wpList_load_row rfl 51 _ rfl _ rfl _ _ (0, 0) _ ks Try.underlying51 rfl (by kernel_rfl) ?_) | (refine wpList_buildG 85 _ rfl (runC (mkC 8 2 3 1) ⟨8, 0, [], 0, 0, -1, 0, 0⟩ none 0 none 0 0 0).toArray (by kernel_rfl) (by kernel_rfl) ?_))
  generalize hV : World.alloc w6 _ = w7
  have kr : Bk w7 w6.heap.size 85 (runC (mkC 8 2 3 1) ⟨8, 0, [], 0, 0, -1, 0, 0⟩ none 0 none 0 0 0) := by subst hV; exact Bk.new' _ _ _ _ rfl
  have hy : Below w6.heap.size w6 w7 := by subst hV; (repeat (first | with_reducible exact Below.refl _ _ | with_reducible assumption | with_reducible refine Below.drew ?_ | with_reducible refine Below.drewN ?_ _ | with_reducible refine Below.alloc1 ?_ _ | with_reducible refine Below.setCell1 ?_ (by first | omega | (simp; done) | (simp; omega)) _ | with_reducible refine Below.step ?_ (by with_reducible assumption)))
  have hgw : w.heap.size ≤ w6.heap.size := hb.size
  have hgc := kc.lt; replace kc := kc.step hy; replace hb := hb.step hy
  clear hV hy ks
  have hR0 : RunAt w7 w6.heap.size (mkC 8 2 3 1) ⟨8, 0, [], 0, 0, -1, 0, 0⟩ [] 0 none 0 none 0 := ⟨kr, Rd.nil, TyA.none _ _, World.ownsRow_nil _ _ _ _⟩
  generalize w6.heap.size = g at *
  have HR0 := hide (Rn.init (b1 := 8) (r1 := 2) (b2 := 3) (r2 := 1) G1.out G2.out)
  clear kr
  go_wp2_with fail
  go_loopw [11] (fun iv wr => ∃ (k : Nat) (x : AS) (ins : List (Int × Int)) (f : Nat → Int × Int) (N : Int) (A2 : Option Addr) (d2 : Nat) (I : Option Addr) (cap : Nat), k ≤ l.length ∧ iv = .int .i64 k ∧ RunAt wr g (mkC 8 2 3 1) x ins N A2 d2 I cap ∧ Hid (Rn 8 2 3 1 x ins N (2 * k) f) ∧ Bk wr gc 44 (acC 8 2 3 1 (u3 50 75 90) (u3 40 60 80) 5 uLo uHi) ∧ Below w.heap.size w wr) (fun iv _ => l.length - (intOf iv).toNat)
  case atStart => exact ⟨0, _, _, _, _, _, _, _, _, Nat.zero_le _, rfl, hR0, HR0, kc, hb⟩
  case round =>
    clear hR0 HR0 kc hb
    obtain ⟨k, x, ins, f, N, A2, d2, I, cap, hk, rfl, hR, HR, kc, hbr⟩ := hrel
    by_cases hlt : k < l.length
    · obtain ⟨ad, rfl, hadb, c0, c1, c2, c3⟩ := (ha.below hbr).stps hlt
      have hg := HLB.out _ (List.getElem_mem hlt)
      generalize l[k] = q at *
      obtain ⟨q0, q1, q2, q3⟩ := q
      dsimp only at *
      have lr := hR.bk.lt
      have hst := run_step_any HR.out (by omega) A2 d2 I cap g q0 q1 q2 q3 hg.1 hg.2.1 hg.2.2.1 hg.2.2.2 wr hR
      go_wp2_with fail
      refine hst.mono ?_; rintro e x1 ⟨rfl, x', ins', f', A3, d3, I3, cap3, hR', hRn', hb'⟩
      have HR' := hide hRn'
      clear hRn' hst
      go_wp2_with fail
      go_roundw
      case rel => exact ⟨k + 1, x', ins', f', _, A3, d3, I3, cap3, by omega, by go_num, hR', HR', kc.below hb' (by omega), hbr.trans (hb'.mono (by omega))⟩
      case measure => simp [intOf]; omega
    · skip
      have hxl := eCheck_len HR.out.jn.hk
      obtain ⟨kr, rA, tA, oI⟩ := hR
      have hb : Below w.heap.size w wr := hbr
      have hgw2 : w.heap.size ≤ gc := hcw
      clear hbr oI
      have hN := HR.out.hN
      have hN2 : 0 ≤ N ∧ N ≤ 100000 := by omega
      have hsr : 0 ≤ src ∧ src ≤ 65535 := hs
      have hd : 0 ≤ draw ∧ draw ≤ 18446744073709551615 := by omega
      obtain ⟨t, y, H, hT, hA, hle, hte, htl, hyl, hH, hfy, hcm, hya, hyb, hyA⟩ := HR.out.shut (by omega) hsr draw
      have HF := hide hfy
      have HCM := hide hcm
      have HYA := hide hya
      have HYB := hide hyb
      have HTE := hide hte
      have HLE := hide hle
      have hTk := fun W h => admit_Tick_any (mkC 8 2 3 1) x A2 d2 100 (N + 1) W hxl h
      have hAs1 := fun W h => admit_Ask_ty (mkC 8 2 3 1) t A2 d2 src (N + 1) draw hd W htl h
      rw [hT] at hTk
      rw [hA] at hAs1
      clear hT hA hte hle hfy hcm hya hyb HR hN
      have rT : Rd wr wr.heap.size A2 (enR t.es) := by rw [HTE.out]; exact rA
      have l_kr := kr.lt
      have l_kc := kc.lt
      have kr_28 := kr.cell 28; simp only [List.getElem?_cons_succ, List.getElem?_cons_zero, mkC] at kr_28
      go_upto_region 12 with fail
      refine wp_region_mt 12 [(10, only (t.V A2 d2)), (11, NewBk wr.heap.size 51 [.int .i64 0, .int .i64 0, .slice none 0 0, .int .i64 0, .int .i64 0, .int .i64 0, .int .i64 0, .int .i64 0])] (by kernel_rfl) (by kernel_rfl) (by kernel_rfl) (by kernel_rfl) (sts_cons (sts_only _) (sts_cons (sts_newBk _ _ _) sts_nil)) (fun kq => ?_); (try dsimp only [List.append, List.take])
      (refine wpM_load _ 44 _ rfl rfl _ 0 rfl ((acC 8 2 3 1 (u3 50 75 90) (u3 40 60 80) 5 uLo uHi)) (fun x hx => by obtain ⟨px, rfl⟩ := hx; exact (kc.step (below_regrown _ _ _)).range 0 _ rfl) _ Try.underlying44 rfl (by kernel_rfl) (later_some _) (by kernel_rfl) (by kernel_rfl) ?_; intro K hK; go_big_quiet_op; refine hK _ ?_; clear hK K)
      iterate 3 (refine wpM_via (by kernel_rfl) ?_; go_big_quiet_step (fail); refine wpQuiet_nil ?_)
      (refine wpM_load _ 51 _ rfl rfl _ 19 rfl ((azC x.t x.a A2 x.es.length d2 x.l x.s x.v x.le x.se)) (fun x hx => by obtain ⟨px, rfl⟩ := hx; exact (kr.step (below_regrown _ _ _)).range 19 _ rfl) _ Try.underlying51 rfl (by kernel_rfl) (later_some _) (by kernel_rfl) (by kernel_rfl) ?_; intro K hK; go_big_quiet_op; refine hK _ ?_; clear hK K)
      iterate 5 (refine wpM_via (by kernel_rfl) ?_; go_big_quiet_step (fail); refine wpQuiet_nil ?_)
      (refine wpM_only _ (t.V A2 d2) (by kernel_rfl) (by kernel_rfl) rfl (later_some _) ?_ ?_; (focus (intro x hx hk; obtain ⟨px, rfl⟩ := hx; go_simp; (first | with_reducible refine mUpon_enter ?_ | with_reducible refine mUpon_value ?_); go_at_call 18; exact (hTk _ (rA.step (below_regrown _ _ _))).mo)); intro K hK; go_big_quiet_op; refine hK _ ?_; clear hK K)
      (refine wpM_spec _ (NewBk wr.heap.size 51 [.int .i64 0, .int .i64 0, .slice none 0 0, .int .i64 0, .int .i64 0, .int .i64 0, .int .i64 0, .int .i64 0]) (by kernel_rfl) (by kernel_rfl) rfl (later_some _) ?_ ?_; (focus (intro x hx hk; obtain ⟨px, rfl⟩ := hx; go_simp; (first | with_reducible refine mUpon_enter ?_ | with_reducible refine mUpon_value ?_); exact newBk_new (by simp [Go.Sort.grow]) rfl (by simp [Go.Sort.grow, redrawn]))); intro v hv K hK; obtain ⟨g12, rfl, hg12⟩ := hv; go_big_quiet_op; refine hK _ ?_; clear hK K)
      refine wpM_nil ?_; intro wq hwq hfq; have hbq := below_of_class hwq; clear hwq kq; (try dsimp only [List.drop])
      have q12 : Bk wq g12 51 [.int .i64 0, .int .i64 0, .slice none 0 0, .int .i64 0, .int .i64 0, .int .i64 0, .int .i64 0, .int .i64 0] := newBk_of (base := wr.heap.size) hfq.1
      clear hfq hTk
      (refine wpList_store_row rfl 51 _ _ rfl _ (azC t.t t.a A2 t.es.length d2 t.l t.s t.v t.le t.se).toArray rfl rfl _ _ q12 (by kernel_rfl) (by kernel_rfl) (by kernel_rfl) ?_)
      dsimp only [Act.put]
      have k12 := q12.row (azC t.t t.a A2 t.es.length d2 t.l t.s t.v t.le t.se)
      have hy := setRow_below hbq hg12 (azC t.t t.a A2 t.es.length d2 t.l t.s t.v t.le t.se).toArray
      have hg12' : g < g12 ∧ gc < g12 := by omega
      generalize hV : World.setRow _ _ _ = w12 at k12 hy ⊢
      clear rA
      replace kr := kr.step hy; replace kc := kc.step hy; replace rT := rT.step hy; replace tA := tA.step hy; replace hb : Below w.heap.size w w12 := hb.step hy
      clear kr_28
      have kr_28 := kr.cell 28; simp only [List.getElem?_cons_succ, List.getElem?_cons_zero, mkC] at kr_28
      replace l_kr := kr.lt
      clear hy
      replace l_kc := kc.lt
      have l_k12 := k12.lt
      clear hV hbq q12 hg12
      obtain ⟨wq, rfl⟩ : ∃ wq : World, wq = w12 := ⟨_, rfl⟩
      obtain ⟨w13, rfl⟩ : ∃ wn : World, wn = wq := ⟨_, rfl⟩
      go_upto_region 13 with fail
      refine wp_region_ml 17 14 [(11, AskT 146 y 15 H), (15, NewBk w13.heap.size 51 [.int .i64 0, .int .i64 0, .slice none 0 0, .int .i64 0, .int .i64 0, .int .i64 0, .int .i64 0, .int .i64 0]), (16, NewBk w13.heap.size 56 [.int .i64 0, .int .i64 0])] (by kernel_rfl) (by kernel_rfl) (by kernel_rfl) (by kernel_rfl) (by kernel_rfl) (sts_cons (sts_ask _ _ _ _) (sts_cons (sts_newBk _ _ _) (sts_cons (sts_newBk _ _ _) sts_nil))) (fun _ d _ _ _ h => by cases d <;> exact h) (fun kq => ?_); (try dsimp only [List.append, lateL, lateOp, List.getElem?_cons_succ, List.getElem?_cons_zero, List.set_cons_succ, List.set_cons_zero, List.take])
      (refine wpM_load _ 44 _ rfl rfl _ 0 rfl ((acC 8 2 3 1 (u3 50 75 90) (u3 40 60 80) 5 uLo uHi)) (fun x hx => by obtain ⟨px, rfl⟩ := hx; exact (kc.step (below_regrown _ _ _)).range 0 _ rfl) _ Try.underlying44 rfl (by kernel_rfl) (later_some _) (by kernel_rfl) (by kernel_rfl) ?_; intro K hK; go_big_quiet_op; refine hK _ ?_; clear hK K)
      (refine wpM_load _ 51 _ rfl rfl _ 0 rfl ((azC t.t t.a A2 t.es.length d2 t.l t.s t.v t.le t.se)) (fun x hx => by obtain ⟨px, rfl⟩ := hx; exact (k12.step (below_regrown _ _ _)).range 0 _ rfl) _ Try.underlying51 rfl (by kernel_rfl) (later_some _) (by kernel_rfl) (by kernel_rfl) ?_; intro K hK; go_big_quiet_op; refine hK _ ?_; clear hK K)
      iterate 9 (refine wpM_via (by kernel_rfl) ?_; go_big_quiet_step (fail); refine wpQuiet_nil ?_)
      (refine wpM_spec _ (AskT 146 y 15 H) (by kernel_rfl) (by kernel_rfl) rfl (later_some _) ?_ ?_; (focus (intro x hx hk; obtain ⟨px, rfl⟩ := hx; go_simp; (first | with_reducible refine mUpon_enter ?_ | with_reducible refine mUpon_value ?_); go_at_call 10; exact Calls.mask ((hAs1 _ (rT.step (below_regrown _ _ _))).mono fun _ _ ⟨A', d', e, r, _, b, t⟩ => ⟨A', d', e, r, b, t (tA.step (below_regrown _ _ _))⟩))); intro v hv K hK; obtain ⟨A5, d5, rfl⟩ := hv; go_big_quiet_op; refine hK _ ?_; clear hK K)
      iterate 3 (refine wpM_via (by kernel_rfl) ?_; go_big_quiet_step (fail); refine wpQuiet_nil ?_)
      (refine wpM_spec _ (NewBk w13.heap.size 51 [.int .i64 0, .int .i64 0, .slice none 0 0, .int .i64 0, .int .i64 0, .int .i64 0, .int .i64 0, .int .i64 0]) (by kernel_rfl) (by kernel_rfl) rfl (later_some _) ?_ ?_; (focus (intro x hx hk; obtain ⟨px, rfl⟩ := hx; go_simp; (first | with_reducible refine mUpon_enter ?_ | with_reducible refine mUpon_value ?_); exact newBk_new (by simp [Go.Sort.grow]) rfl (by simp [Go.Sort.grow, redrawn]))); intro v hv K hK; obtain ⟨g13, rfl, hg9⟩ := hv; go_big_quiet_op; refine hK _ ?_; clear hK K)
      (refine wpM_spec _ (NewBk w13.heap.size 56 [.int .i64 0, .int .i64 0]) (by kernel_rfl) (by kernel_rfl) rfl (later_some _) ?_ ?_; (focus (intro x hx hk; obtain ⟨px, rfl⟩ := hx; go_simp; (first | with_reducible refine mUpon_enter ?_ | with_reducible refine mUpon_value ?_); exact newBk_new (by simp [Go.Sort.grow]) rfl (by simp [Go.Sort.grow, redrawn]))); intro v hv K hK; obtain ⟨g14, rfl, hg10⟩ := hv; go_big_quiet_op; refine hK _ ?_; clear hK K)
      refine wpM_nil ?_; intro wq hwq hfq; have hbq := below_of_class hwq; clear hwq kq; (try dsimp only [List.drop])
      have q9 : Bk wq g13 51 [.int .i64 0, .int .i64 0, .slice none 0 0, .int .i64 0, .int .i64 0, .int .i64 0, .int .i64 0, .int .i64 0] := newBk_of (base := w13.heap.size) hfq.2.1
      have q10 : Bk wq g14 56 [.int .i64 0, .int .i64 0] := newBk_of (base := w13.heap.size) hfq.1
      obtain ⟨rY, tY⟩ := ask_of hfq.2.2.1
      have hne : g14 ≠ g13 := fun e => by subst e; exact Bk.apart q9 q10 (by decide)
      clear hfq
      have r10 := q10.rowFar hne (azC y.t y.a A5 y.es.length d5 y.l y.s y.v y.le y.se).toArray
      (refine wpList_store_row rfl 51 _ _ rfl _ (azC y.t y.a A5 y.es.length d5 y.l y.s y.v y.le y.se).toArray rfl rfl _ _ q9 (by kernel_rfl) (by kernel_rfl) (by kernel_rfl) ?_)
      (refine wpList_store_row rfl 56 _ _ rfl _ ([.int .i64 15, .int .i64 H]).toArray rfl rfl _ _ r10 (by kernel_rfl) (by kernel_rfl) (by kernel_rfl) ?_)
      dsimp only [Act.put]
      have k13 := (q9.row (azC y.t y.a A5 y.es.length d5 y.l y.s y.v y.le y.se)).rowFar (g := g14) (Ne.symm hne) ([.int .i64 15, .int .i64 H] : List Value).toArray
      have k14 := r10.row [.int .i64 15, .int .i64 H]
      replace rY := (rY.rowFar (tY.ne q9 (by decide)) (azC y.t y.a A5 y.es.length d5 y.l y.s y.v y.le y.se).toArray).rowFar (tY.ne q10 (by decide)) ([.int .i64 15, .int .i64 H] : List Value).toArray
      have tY5 := (tY.rowFar (tY.ne q9 (by decide)) (azC y.t y.a A5 y.es.length d5 y.l y.s y.v y.le y.se).toArray).rowFar (tY.ne q10 (by decide)) ([.int .i64 15, .int .i64 H] : List Value).toArray
      have hy := setRow_below (setRow_below hbq hg9 (azC y.t y.a A5 y.es.length d5 y.l y.s y.v y.le y.se).toArray) hg10 ([.int .i64 15, .int .i64 H] : List Value).toArray
      generalize hV : World.setRow (World.setRow _ _ _) _ _ = wq at k13 k14 rY tY5 hy ⊢
      replace kr := kr.step hy; replace kc := kc.step hy; replace k12 := k12.step hy; replace hb : Below w.heap.size w wq := hb.step hy
      clear kr_28
      have kr_28 := kr.cell 28; simp only [List.getElem?_cons_succ, List.getElem?_cons_zero, mkC] at kr_28
      replace l_kr := kr.lt
      clear hy
      clear hV hbq q9 q10 r10 hne
      have hg13 : g < g13 ∧ gc < g13 ∧ g12 < g13 := by omega
      have hg14 : g < g14 ∧ gc < g14 ∧ g12 < g14 := by omega
      clear hg9 hg10 hAs1 rT tA
      replace l_kc := kc.lt; replace l_k12 := k12.lt; have l_k13 := k13.lt; have l_k14 := k14.lt
      obtain ⟨w14, rfl⟩ : ∃ w14 : World, w14 = wq := ⟨_, rfl⟩
      have kz := Bk.new w14 51 [.int .i64 0, .int .i64 0, .slice none 0 0, .int .i64 0, .int .i64 0, .int .i64 0, .int .i64 0, .int .i64 0]
      go_upto_region 15 with (first | (refine wpList_load_row rfl 51 _ rfl _ rfl _ _ (0, 0) _ k13 Try.underlying51 rfl (by kernel_rfl) ?_) | (refine wpList_store_row rfl 51 _ _ rfl _ (azC y.t y.a A5 y.es.length d5 y.l y.s y.v y.le y.se).toArray rfl rfl _ _ kz (by kernel_rfl) (by kernel_rfl) (by kernel_rfl) ?_))
      have k15 := kz.row (azC y.t y.a A5 y.es.length d5 y.l y.s y.v y.le y.se)
      have hy := setRow_below (Below.alloc1 (Below.refl w14.heap.size w14) (.cells ([.int .i64 0, .int .i64 0, .slice none 0 0, .int .i64 0, .int .i64 0, .int .i64 0, .int .i64 0, .int .i64 0] : List Value).toArray 51)) (Nat.le_refl _) (azC y.t y.a A5 y.es.length d5 y.l y.s y.v y.le y.se).toArray
      have hg15 : g < w14.heap.size ∧ gc < w14.heap.size ∧ g12 < w14.heap.size ∧ g13 < w14.heap.size ∧ g14 < w14.heap.size := by omega
      generalize hV : World.setRow _ _ _ = w15 at k15 hy ⊢
      replace kr := kr.step hy; replace kc := kc.step hy; replace k12 := k12.step hy; replace k13 := k13.step hy; replace k14 := k14.step hy; replace rY := rY.step hy; replace tY5 := tY5.step hy
      replace hb : Below w.heap.size w w15 := hb.step hy
      clear hV hy kz kr_28 l_kr l_kc l_k12 l_k13 l_k14
      generalize w14.heap.size = g15 at *
      go_wp2_with fail
      go_loopw [16] (fun iv wx => ∃ (i : Nat) (zz : AS), i ≤ 40 ∧ iv = .int .i64 i ∧ Hid (Cm y (N + 2) i zz) ∧ Bk wx g15 51 (azC zz.t zz.a A5 zz.es.length d5 zz.l zz.s zz.v zz.le zz.se) ∧ Bk wx gc 44 (acC 8 2 3 1 (u3 50 75 90) (u3 40 60 80) 5 uLo uHi) ∧ Bk wx g 85 (runC (mkC 8 2 3 1) x A2 d2 I ins.length cap N) ∧ Bk wx g12 51 (azC t.t t.a A2 t.es.length d2 t.l t.s t.v t.le t.se) ∧ Bk wx g13 51 (azC y.t y.a A5 y.es.length d5 y.l y.s y.v y.le y.se) ∧ Bk wx g14 56 [.int .i64 15, .int .i64 H] ∧ Rd wx wx.heap.size A5 (enR y.es) ∧ TyA wx 146 A5 ∧ Below w.heap.size w wx) (fun iv _ => 40 - (intOf iv).toNat)
      case atStart => exact ⟨0, y, by omega, rfl, HCM, k15, kc, kr, k12, k13, k14, rY, tY5, hb⟩
      case round =>
        clear k15 kc kr k12 k13 k14 rY tY5 hb HCM
        obtain ⟨i, zz, hi, rfl, HC, k15, kc, kr, k12, k13, k14, rY, tY5, hb⟩ := hrel
        have HE := hide (Cm.es HC.out)
        have hzl : zz.es.length ≤ 1000 := by rw [HE.out]; exact hyl
        have rZ : Rd wr wr.heap.size A5 (enR zz.es) := by rw [HE.out]; exact rY
        have l_kr := kr.lt; have l_kc := kc.lt; have l_k15 := k15.lt; have l_k12 := k12.lt; have l_k13 := k13.lt; have l_k14 := k14.lt
        have kr_28 := kr.cell 28; simp only [List.getElem?_cons_succ, List.getElem?_cons_zero, mkC] at kr_28
        by_cases hlt : i < 40
        · have hTk := fun W h => admit_Tick_any (mkC 8 2 3 1) zz A5 d5 0 (N + 2 + i) W hzl h
          have HC2 := hide (Cm.step HF.out HC.out hlt (by omega))
          generalize aTick (mkC 8 2 3 1) zz 0 (N + 2 + (i : Int)) = z2 at *
          have hlt2 : (i : Int) < 40 := by omega
          obtain ⟨wo, rfl⟩ : ∃ wo : World, wo = wr := ⟨_, rfl⟩
          go_upto_region 18 with fail
          refine wp_region_mt 10 [(9, only (z2.V A5 d5))] (by kernel_rfl) (by kernel_rfl) (by kernel_rfl) (by kernel_rfl) (sts_cons (sts_only _) sts_nil) (fun kq => ?_); (try dsimp only [List.append, List.take])
          (refine wpM_load _ 44 _ rfl rfl _ 0 rfl ((acC 8 2 3 1 (u3 50 75 90) (u3 40 60 80) 5 uLo uHi)) (fun x hx => by obtain ⟨px, rfl⟩ := hx; exact (kc.step (below_regrown _ _ _)).range 0 _ rfl) _ Try.underlying44 rfl (by kernel_rfl) (later_some _) (by kernel_rfl) (by kernel_rfl) ?_; intro K hK; go_big_quiet_op; refine hK _ ?_; clear hK K)
          (refine wpM_load _ 51 _ rfl rfl _ 0 rfl ((azC zz.t zz.a A5 zz.es.length d5 zz.l zz.s zz.v zz.le zz.se)) (fun x hx => by obtain ⟨px, rfl⟩ := hx; exact (k15.step (below_regrown _ _ _)).range 0 _ rfl) _ Try.underlying51 rfl (by kernel_rfl) (later_some _) (by kernel_rfl) (by kernel_rfl) ?_; intro K hK; go_big_quiet_op; refine hK _ ?_; clear hK K)
          iterate 7 (refine wpM_via (by kernel_rfl) ?_; go_big_quiet_step (fail); refine wpQuiet_nil ?_)
          (refine wpM_only _ (z2.V A5 d5) (by kernel_rfl) (by kernel_rfl) rfl (later_some _) ?_ ?_; (focus (intro x hx hk; obtain ⟨px, rfl⟩ := hx; go_simp; (first | with_reducible refine mUpon_enter ?_ | with_reducible refine mUpon_value ?_); go_at_call 18; exact (hTk _ (rZ.step (below_regrown _ _ _))).mo)); intro K hK; go_big_quiet_op; refine hK _ ?_; clear hK K)
          refine wpM_nil ?_; intro wq hwq hfq; have hbq := below_of_class hwq; clear hwq kq; (try dsimp only [List.drop])
          have k15q := k15.step hbq
          (refine wpList_store_row rfl 51 _ _ rfl _ (azC z2.t z2.a A5 z2.es.length d5 z2.l z2.s z2.v z2.le z2.se).toArray rfl rfl _ _ k15q (by kernel_rfl) (by kernel_rfl) (by kernel_rfl) ?_)
          have hYn := tY5.ne k15 (by decide)
          go_wp2_with fail
          go_roundw
          case rel => exact ⟨i + 1, z2, by omega, by go_num, HC2, k15q.row _, (kc.step hbq).rowFar (by omega) _, (kr.step hbq).rowFar (by omega) _, (k12.step hbq).rowFar (by omega) _, (k13.step hbq).rowFar (by omega) _, (k14.step hbq).rowFar (by omega) _, (rY.step hbq).rowFar hYn _, (tY5.step hbq).rowFar hYn _, setRow_below (hb.step hbq) (by omega) _⟩
          case measure => simp [intOf]; omega
        · have hi40 : i = 40 := by omega
          subst hi40
          obtain ⟨u, hU, hul⟩ := Cm.opens (draw := draw) HF.out HC.out hN2 hsr HYA.out HYB.out hyA
          have HZ0 := hide (Cm.last HC.out)
          have hAs2 := fun W h => admit_Ask_ty (mkC 8 2 3 1) zz A5 d5 src (N + 60) draw hd W hzl h
          rw [hU] at hAs2
          clear hU HC HF HYA HYB hlt
          obtain ⟨wq, rfl⟩ : ∃ wq : World, wq = wr := ⟨_, rfl⟩
          obtain ⟨w19, rfl⟩ : ∃ wn : World, wn = wq := ⟨_, rfl⟩
          go_upto_region 19 with fail
          refine wp_region_ml 17 14 [(11, AskT 146 u 0 0), (15, NewBk w19.heap.size 51 [.int .i64 0, .int .i64 0, .slice none 0 0, .int .i64 0, .int .i64 0, .int .i64 0, .int .i64 0, .int .i64 0]), (16, NewBk w19.heap.size 56 [.int .i64 0, .int .i64 0])] (by kernel_rfl) (by kernel_rfl) (by kernel_rfl) (by kernel_rfl) (by kernel_rfl) (sts_cons (sts_ask _ _ _ _) (sts_cons (sts_newBk _ _ _) (sts_cons (sts_newBk _ _ _) sts_nil))) (fun _ d _ _ _ h => by cases d <;> exact h) (fun kq => ?_); (try dsimp only [List.append, lateL, lateOp, List.getElem?_cons_succ, List.getElem?_cons_zero, List.set_cons_succ, List.set_cons_zero, List.take])
          (refine wpM_load _ 44 _ rfl rfl _ 0 rfl ((acC 8 2 3 1 (u3 50 75 90) (u3 40 60 80) 5 uLo uHi)) (fun x hx => by obtain ⟨px, rfl⟩ := hx; exact (kc.step (below_regrown _ _ _)).range 0 _ rfl) _ Try.underlying44 rfl (by kernel_rfl) (later_some _) (by kernel_rfl) (by kernel_rfl) ?_; intro K hK; go_big_quiet_op; refine hK _ ?_; clear hK K)
          (refine wpM_load _ 51 _ rfl rfl _ 0 rfl ((azC zz.t zz.a A5 zz.es.length d5 zz.l zz.s zz.v zz.le zz.se)) (fun x hx => by obtain ⟨px, rfl⟩ := hx; exact (k15.step (below_regrown _ _ _)).range 0 _ rfl) _ Try.underlying51 rfl (by kernel_rfl) (later_some _) (by kernel_rfl) (by kernel_rfl) ?_; intro K hK; go_big_quiet_op; refine hK _ ?_; clear hK K)
          iterate 9 (refine wpM_via (by kernel_rfl) ?_; go_big_quiet_step (fail); refine wpQuiet_nil ?_)
          (refine wpM_spec _ (AskT 146 u 0 0) (by kernel_rfl) (by kernel_rfl) rfl (later_some _) ?_ ?_; (focus (intro x hx hk; obtain ⟨px, rfl⟩ := hx; go_simp; (first | with_reducible refine mUpon_enter ?_ | with_reducible refine mUpon_value ?_); go_at_call 10; exact Calls.mask ((hAs2 _ (rZ.step (below_regrown _ _ _))).mono fun _ _ ⟨A', d', e, r, _, b, t⟩ => ⟨A', d', e, r, b, t (tY5.step (below_regrown _ _ _))⟩))); intro v hv K hK; obtain ⟨A7, d7, rfl⟩ := hv; go_big_quiet_op; refine hK _ ?_; clear hK K)
          iterate 3 (refine wpM_via (by kernel_rfl) ?_; go_big_quiet_step (fail); refine wpQuiet_nil ?_)
          (refine wpM_spec _ (NewBk w19.heap.size 51 [.int .i64 0, .int .i64 0, .slice none 0 0, .int .i64 0, .int .i64 0, .int .i64 0, .int .i64 0, .int .i64 0]) (by kernel_rfl) (by kernel_rfl) rfl (later_some _) ?_ ?_; (focus (intro x hx hk; obtain ⟨px, rfl⟩ := hx; go_simp; (first | with_reducible refine mUpon_enter ?_ | with_reducible refine mUpon_value ?_); exact newBk_new (by simp [Go.Sort.grow]) rfl (by simp [Go.Sort.grow, redrawn]))); intro v hv K hK; obtain ⟨g17, rfl, hg9⟩ := hv; go_big_quiet_op; refine hK _ ?_; clear hK K)
          (refine wpM_spec _ (NewBk w19.heap.size 56 [.int .i64 0, .int .i64 0]) (by kernel_rfl) (by kernel_rfl) rfl (later_some _) ?_ ?_; (focus (intro x hx hk; obtain ⟨px, rfl⟩ := hx; go_simp; (first | with_reducible refine mUpon_enter ?_ | with_reducible refine mUpon_value ?_); exact newBk_new (by simp [Go.Sort.grow]) rfl (by simp [Go.Sort.grow, redrawn]))); intro v hv K hK; obtain ⟨g18, rfl, hg10⟩ := hv; go_big_quiet_op; refine hK _ ?_; clear hK K)
          refine wpM_nil ?_; intro wq hwq hfq; have hbq := below_of_class hwq; clear hwq kq; (try dsimp only [List.drop])
          have q9 : Bk wq g17 51 [.int .i64 0, .int .i64 0, .slice none 0 0, .int .i64 0, .int .i64 0, .int .i64 0, .int .i64 0, .int .i64 0] := newBk_of (base := w19.heap.size) hfq.2.1
          have q10 : Bk wq g18 56 [.int .i64 0, .int .i64 0] := newBk_of (base := w19.heap.size) hfq.1
          obtain ⟨rU, tY⟩ := ask_of hfq.2.2.1
          have hne : g18 ≠ g17 := fun e => by subst e; exact Bk.apart q9 q10 (by decide)
          clear hfq
          have r10 := q10.rowFar hne (azC u.t u.a A7 u.es.length d7 u.l u.s u.v u.le u.se).toArray
          (refine wpList_store_row rfl 51 _ _ rfl _ (azC u.t u.a A7 u.es.length d7 u.l u.s u.v u.le u.se).toArray rfl rfl _ _ q9 (by kernel_rfl) (by kernel_rfl) (by kernel_rfl) ?_)
          (refine wpList_store_row rfl 56 _ _ rfl _ ([.int .i64 0, .int .i64 0]).toArray rfl rfl _ _ r10 (by kernel_rfl) (by kernel_rfl) (by kernel_rfl) ?_)
          dsimp only [Act.put]
          have k17 := (q9.row (azC u.t u.a A7 u.es.length d7 u.l u.s u.v u.le u.se)).rowFar (g := g18) (Ne.symm hne) ([.int .i64 0, .int .i64 0] : List Value).toArray
          have k18 := r10.row [.int .i64 0, .int .i64 0]
          replace rU := (rU.rowFar (tY.ne q9 (by decide)) (azC u.t u.a A7 u.es.length d7 u.l u.s u.v u.le u.se).toArray).rowFar (tY.ne q10 (by decide)) ([.int .i64 0, .int .i64 0] : List Value).toArray
          have hy := setRow_below (setRow_below hbq hg9 (azC u.t u.a A7 u.es.length d7 u.l u.s u.v u.le u.se).toArray) hg10 ([.int .i64 0, .int .i64 0] : List Value).toArray
          generalize hV : World.setRow (World.setRow _ _ _) _ _ = wq at k17 k18 rU  hy ⊢
          replace kr := kr.step hy; replace kc := kc.step hy; replace k12 := k12.step hy; replace k13 := k13.step hy; replace k14 := k14.step hy; replace k15 := k15.step hy; replace hb : Below w.heap.size w wq := hb.step hy
          clear kr_28
          have kr_28 := kr.cell 28; simp only [List.getElem?_cons_succ, List.getElem?_cons_zero, mkC] at kr_28
          replace l_kr := kr.lt
          clear hy
          clear hV hbq q9 q10 r10 hne hg9 hg10 tY
          replace l_kc := kc.lt; replace l_k12 := k12.lt; replace l_k13 := k13.lt; replace l_k14 := k14.lt; replace l_k15 := k15.lt; have l_k18 := k18.lt
          have kc_14 := kc.cell 14; have kc_18 := kc.cell 18; simp only [List.getElem?_cons_succ, List.getElem?_cons_zero, mkC] at kc_14 kc_18
          have k12_6 := k12.cell 6; simp only [List.getElem?_cons_succ, List.getElem?_cons_zero, mkC] at k12_6
          have k13_6 := k13.cell 6; simp only [List.getElem?_cons_succ, List.getElem?_cons_zero, mkC] at k13_6
          have k14_0 := k14.cell 0; have k14_1 := k14.cell 1; simp only [List.getElem?_cons_succ, List.getElem?_cons_zero, mkC] at k14_0 k14_1
          have k15_3 := k15.cell 3; simp only [List.getElem?_cons_succ, List.getElem?_cons_zero, mkC] at k15_3
          have k18_0 := k18.cell 0; simp only [List.getElem?_cons_succ, List.getElem?_cons_zero, mkC] at k18_0
          rw [HZ0.out] at k15_3
          have z1 : decide (uLo 3 ≤ H) = true := by simpa using hH.1
          have z2 : decide (H ≤ uHi 3) = true := by simpa using hH.2
          have z3 : (y.le == t.le) = true := by simpa using HLE.out
          go_wp2_with fail
          refine (awake18_any _).mono ?_; rintro e y9 ⟨rfl, hx⟩
          go_wp2
          go_ret
          exact ⟨rfl, hb.step hx⟩
end Go.Proofs.Ytolpiaehleefbaa
