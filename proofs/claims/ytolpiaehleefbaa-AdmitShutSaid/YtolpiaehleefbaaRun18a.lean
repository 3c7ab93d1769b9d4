/- callboylaw18: run's counts. -/
import Derived.Test.YtolpiaehleefbaaRun18p
import Derived.Test.YtolpiaehleefbaaSt18
namespace Go.Proofs.Ytolpiaehleefbaa
open Go.RowKit Go.Sort
set_option linter.unusedSimpArgs false
set_option linter.unusedVariables false

abbrev letC (x : Int × Int) : List Value := [.int .i64 x.1, .int .i64 x.2]
abbrev letR (l : List (Int × Int)) : List Value := l.flatMap letC
theorem Rd.lets {w : World} {B : Nat} {A : Option Addr} {l : List (Int × Int)} (h : Rd w B A (letR l)) {k : Nat} (hk : k < l.length) :
    ∃ ad, A = some ad ∧ ad.block < B ∧ w.cell? (ad.add (k * 2)) = some (.int .i64 l[k].1) ∧ w.cell? { block := (ad.add (k * 2)).block, off := (ad.add (k * 2)).off + 1 } = some (.int .i64 l[k].2) := by
  have hl : ∀ (l : List (Int × Int)) (k : Nat) (hk : k < l.length), (letR l)[k * 2]? = some (.int .i64 l[k].1) ∧ (letR l)[k * 2 + 1]? = some (.int .i64 l[k].2) := by
    intro l
    induction l with
    | nil => intro k hk; simp at hk
    | cons a l ih =>
      intro k hk
      cases k with
      | zero => simp [letR]
      | succ k =>
        have := ih k (by simpa using hk)
        have e : ∀ j, (letR (a :: l))[(k + 1) * 2 + j]? = (letR l)[k * 2 + j]? := fun j => by
          rw [show (k + 1) * 2 + j = (k * 2 + j) + 2 by omega]
          simp [letR]
        have e0 := e 0
        simp only [Nat.add_zero] at e0
        rw [e0, e 1]
        simpa using this
  obtain ⟨q0, q1⟩ := hl l k hk
  obtain ⟨ad, e, hb, hc⟩ := h (by intro e; rw [e] at q0; simp at q0)
  exact ⟨ad, e, hb, hc _ _ q0, by have := hc _ _ q1; rwa [← add_add', show ∀ x : Addr, x.add 1 = { block := x.block, off := x.off + 1 } from fun x => by simp [Addr.add]] at this⟩
abbrev runC (c : AC) (x : AS) (A : Option Addr) (d : Nat) (I : Option Addr) (n cap : Nat) (N : Int) : List Value :=
  [.int .i64 c.ab, .int .i64 c.ar, .int .i64 c.eb, .int .i64 c.er, .int .i64 (c.up 0), .int .i64 (c.up 1), .int .i64 (c.up 2), .int .i64 (c.dn 0), .int .i64 (c.dn 1), .int .i64 (c.dn 2), .int .i64 c.hold, .int .i64 (c.lo 0), .int .i64 (c.lo 1), .int .i64 (c.lo 2), .int .i64 (c.lo 3), .int .i64 (c.hi 0), .int .i64 (c.hi 1), .int .i64 (c.hi 2), .int .i64 (c.hi 3),
   .int .i64 x.t, .int .i64 x.a, .slice A x.es.length d, .int .i64 x.l, .int .i64 x.s, .int .i64 x.v, .int .i64 x.le, .int .i64 x.se, .slice I n cap, .int .i64 N]
set_option maxRecDepth 100000 in
set_option maxHeartbeats 16000000 in
theorem run_counts_any (c : AC) (x : AS) (A : Option Addr) (d : Nat) (I : Option Addr) (cap : Nat) (ins : List (Int × Int)) (N : Int) (g : Nat) (w : World) (hk : Bk w g 85 (runC c x A d I ins.length cap N)) (hI : Rd w w.heap.size I (letR ins)) (hn : ins.length ≤ 1000) (hN : 0 ≤ N ∧ N ≤ 1000000) (hat : ∀ p ∈ ins, 0 ≤ p.2 ∧ p.2 ≤ N)
    (h1 : ∀ (i : Nat) (hi : i < ins.length), (ins.length : Int) - i ≤ bMost c.ab c.ar (N - ins[i].2)) (h2 : ∀ (i : Nat) (hi : i < ins.length), (cnt ins i ins.length : Int) ≤ bMost c.eb c.er (N - ins[i].2)) :
    Calls Try.prog 69 #[.pointer (some ⟨g, 0, none⟩)] w fun e w' => e = .returned (.bool true) ∧ Below w.heap.size w w' := by
  have H1 := hide h1
  have H2 := hide h2
  have HA := hide hat
  have lk := hk.lt
  clear h1 h2 hat
  have p27 := hk.cell 27
  simp only [List.getElem?_cons_succ, List.getElem?_cons_zero] at p27
  go_enter Try.func69, Try.ntmps69
  go_wp2_with fail
  clear p27
  go_loopw [3] (fun kv wr => ∃ k : Nat, k ≤ ins.length ∧ kv = .int .i64 k ∧ Below w.heap.size w wr) (fun kv _ => ins.length - (intOf kv).toNat)
  case atStart => exact ⟨0, Nat.zero_le _, rfl, Below.refl _ _⟩
  case round =>
    obtain ⟨k, hkl, rfl, hb⟩ := hrel
    have kr := hk.step hb
    have rI := hI.step hb
    have lkr := kr.lt
    have p0 := kr.cell 0; have p1 := kr.cell 1; have p2 := kr.cell 2; have p3 := kr.cell 3; have p27 := kr.cell 27; have p28 := kr.cell 28
    simp only [List.getElem?_cons_succ, List.getElem?_cons_zero] at p0 p1 p2 p3 p27 p28
    by_cases hlt : k < ins.length
    · obtain ⟨wo, rfl⟩ : ∃ wo : World, wo = wr := ⟨_, rfl⟩
      go_wp2_with fail
      go_loopw [4, 5] (fun sv iv wx => ∃ i : Nat, k ≤ i ∧ i ≤ ins.length ∧ iv = .int .i64 i ∧ sv = .int .i64 (cnt ins k i) ∧ Below wo.heap.size wo wx) (fun _ iv _ => ins.length - (intOf iv).toNat)
      case atStart => exact ⟨k, Nat.le_refl _, Nat.le_of_lt hlt, rfl, by rw [cnt_start]; rfl, Below.refl _ _⟩
      case round =>
        obtain ⟨i, hki, hil, rfl, rfl, hbi⟩ := hrel
        clear p0 p1 p2 p3 p27 p28
        have kx := kr.step hbi
        have rX := rI.step hbi
        have lkx := kx.lt
        have p0 := kx.cell 0; have p1 := kx.cell 1; have p2 := kx.cell 2; have p3 := kx.cell 3; have p27 := kx.cell 27; have p28 := kx.cell 28
        simp only [List.getElem?_cons_succ, List.getElem?_cons_zero] at p0 p1 p2 p3 p27 p28
        have hcl := cnt_le ins k i
        by_cases hilt : i < ins.length
        · obtain ⟨ad, rfl, hadb, hc1, hc2⟩ := rX.lets hlt
          obtain ⟨ad', e', _, hc3, hc4⟩ := rX.lets hilt
          injection e' with e'
          subst e'
          have hs := cnt_step hki hilt
          rw [show ins.getD k (0, 0) = ins[k] by simp [List.getD, hlt]] at hs
          have HS := hide hs
          clear hs hc2 hc4
          generalize ins[i].1 = v1 at *
          generalize ins[k].1 = v2 at *
          have hadb2 : ∀ j : Nat, (ad.add j).block < wr.heap.size := fun j => by rw [add_block]; exact hadb
          have hg1 : ∀ (d : Nat) (os : Array Obj), (Go.Sort.grow (redrawn wr d) os).cell? (ad.add (k * 2)) = some (.int .i64 v2) := fun d os => ((below_regrown wr d os).cell (hadb2 _)).trans hc1
          have hg3 : ∀ (d : Nat) (os : Array Obj), (Go.Sort.grow (redrawn wr d) os).cell? (ad.add (i * 2)) = some (.int .i64 v1) := fun d os => ((below_regrown wr d os).cell (hadb2 _)).trans hc3
          by_cases hv : v1 = v2
          · subst hv
            have HS2 := hide (show cnt ins k (i + 1) = cnt ins k i + 1 by rw [HS.out]; simp)
            clear HS
            go_wp2_with fail
            (refine wp_region_qb (by kernel_rfl) (by kernel_rfl) (fun kq => ?_); (try dsimp only [List.append]); (repeat (go_big_quiet_step ((fail)))); refine wpQuiet_nil ?_; intro wq hwq; have hbq := below_of_class hwq; clear hwq kq)
            go_wp2_with fail
            go_roundw
            case rel => exact ⟨i + 1, by omega, by omega, by go_num, by rw [HS2.out]; go_num, hbi.step hbq⟩
            case measure => simp [intOf]; omega
          · have hvb : (v1 == v2) = false := by simpa using hv
            have HS2 := hide (show cnt ins k (i + 1) = cnt ins k i by rw [HS.out, hvb]; simp)
            clear HS
            go_wp2_with fail
            (refine wp_region_qb (by kernel_rfl) (by kernel_rfl) (fun kq => ?_); (try dsimp only [List.append]); (repeat (go_big_quiet_step ((fail)))); refine wpQuiet_nil ?_; intro wq hwq; have hbq := below_of_class hwq; clear hwq kq)
            go_wp2_with fail
            go_roundw
            case rel => exact ⟨i + 1, by omega, by omega, by go_num, by rw [HS2.out], hbi.step hbq⟩
            case measure => simp [intOf]; omega
        · have hie : i = ins.length := by omega
          subst hie
          obtain ⟨ad, rfl, hadb, hc1, hc2⟩ := rX.lets hlt
          have m1 := H1.out k hlt
          have m2 := H2.out k hlt
          have ha2 := HA.out _ (List.getElem_mem hlt)
          generalize ins[k].2 = at_ at *
          generalize hq : cnt ins k ins.length = q at *
          clear hc1 hq
          have hadb2 : (ad.add (k * 2)).block < wr.heap.size := by rw [add_block]; exact hadb
          have hcg : ∀ (d : Nat) (os : Array Obj), (Go.Sort.grow (redrawn wr d) os).cell? { block := (ad.add (k * 2)).block, off := (ad.add (k * 2)).off + 1 } = some (.int .i64 at_) := fun d os => ((below_regrown wr d os).cell (by exact hadb2)).trans hc2
          go_wp2_with fail
          (refine wp_region_qb (by kernel_rfl) (by kernel_rfl) (fun kq => ?_); (try dsimp only [List.append]); (repeat (go_big_quiet_step ((fail)))); refine wpQuiet_nil ?_; intro wq hwq; have hbq := below_of_class hwq; clear hwq kq)
          have hcq : ∀ (d : Nat) (os : Array Obj), (Go.Sort.grow (redrawn wq d) os).cell? { block := (ad.add (k * 2)).block, off := (ad.add (k * 2)).off + 1 } = some (.int .i64 at_) := fun d os => ((below_regrown wq d os).cell (p := ⟨(ad.add (k * 2)).block, (ad.add (k * 2)).off + 1, none⟩) (Nat.lt_of_lt_of_le hadb2 hbq.size)).trans ((hbq.cell (p := ⟨(ad.add (k * 2)).block, (ad.add (k * 2)).off + 1, none⟩) hadb2).trans hc2)
          have kq3 := kx.step hbq
          clear p0 p1 p2 p3 p27 p28
          have p0 := kq3.cell 0; have p1 := kq3.cell 1; have p2 := kq3.cell 2; have p3 := kq3.cell 3; have p27 := kq3.cell 27; have p28 := kq3.cell 28
          simp only [List.getElem?_cons_succ, List.getElem?_cons_zero] at p0 p1 p2 p3 p27 p28
          obtain ⟨wz, rfl⟩ : ∃ wz : World, wz = wq := ⟨_, rfl⟩
          have hbz := hbq
          clear hbq
          have lkz := kq3.lt
          have d1 : decide (bMost c.ab c.ar (N - at_) < (ins.length : Int) - k) = false := by simpa using m1
          have d2 : decide (bMost c.eb c.er (N - at_) < (q : Int)) = false := by simpa using m2
          go_upto_region 11 with fail
          refine wp_region_m [(13, only (.int .i64 (bMost c.ab c.ar (N - at_)))), (23, only (.int .i64 (bMost c.eb c.er (N - at_))))] (by kernel_rfl) (by kernel_rfl) (by kernel_rfl) (by kernel_rfl) (sts_cons (sts_only _) (sts_cons (sts_only _) sts_nil)) (fun kq => ?_); (try dsimp only [List.append])
          (repeat (refine wpM_via (by kernel_rfl) ?_; go_big_quiet_step (fail); refine wpQuiet_nil ?_))
          (refine wpM_only _ (.int .i64 (bMost c.ab c.ar (N - at_))) (by kernel_rfl) (by kernel_rfl) rfl (later_some _) ?_ ?_; (focus (intro x hx hk; obtain ⟨px, rfl⟩ := hx; go_simp; (first | with_reducible refine mUpon_enter ?_ | with_reducible refine mUpon_value ?_); go_at_call 100; exact (bucket_Most_any _ _ _ _).mo)); intro K hK; go_big_quiet_op; refine hK _ ?_; clear hK K)
          (repeat (refine wpM_via (by kernel_rfl) ?_; go_big_quiet_step (fail); refine wpQuiet_nil ?_))
          (refine wpM_only _ (.int .i64 (bMost c.eb c.er (N - at_))) (by kernel_rfl) (by kernel_rfl) rfl (later_some _) ?_ ?_; (focus (intro x hx hk; obtain ⟨px, rfl⟩ := hx; go_simp; (first | with_reducible refine mUpon_enter ?_ | with_reducible refine mUpon_value ?_); go_at_call 100; exact (bucket_Most_any _ _ _ _).mo)); intro K hK; go_big_quiet_op; refine hK _ ?_; clear hK K)
          (repeat (refine wpM_via (by kernel_rfl) ?_; go_big_quiet_step (fail); refine wpQuiet_nil ?_))
          refine wpM_nil ?_; intro wq hwq hfq; have hbq := below_of_class hwq; clear hwq kq; (try dsimp only [List.drop])
          go_wp2_with fail
          go_roundw
          case rel => exact ⟨k + 1, by omega, by go_num, ((hb.step hbi).step hbz).step hbq⟩
          case measure => simp [intOf]; omega
    · go_wp2_with fail
      go_ret
      exact ⟨rfl, hb⟩
end Go.Proofs.Ytolpiaehleefbaa
