/- The walk of SourceClean. -/
import Derived.Test.YtpjepaaaanajhaaLaw14a
import Derived.Test.YtpjepaaaanajhaaSrcP
namespace Go.Proofs.Ytpjepaaaanajhaa
open Go.RowKit Go.Sort
set_option linter.unusedSimpArgs false
set_option linter.unusedVariables false

abbrev asC (x : Int × Int) : List Value := [.int .u8 x.1, .int .u8 x.2]
abbrev asR (l : List (Int × Int)) : List Value := l.flatMap asC
theorem Rd.as {w : World} {B : Nat} {A : Option Addr} {l : List (Int × Int)} (h : Rd w B A (asR l)) {k : Nat} (hk : k < l.length) :
    ∃ ad, A = some ad ∧ ad.block < B ∧ w.cell? (ad.add (k * 2)) = some (.int .u8 l[k].1) ∧ w.cell? { block := (ad.add (k * 2)).block, off := (ad.add (k * 2)).off + 1 } = some (.int .u8 l[k].2) := by
  have hl : ∀ (l : List (Int × Int)) (k : Nat) (hk : k < l.length), (asR l)[k * 2]? = some (.int .u8 l[k].1) ∧ (asR l)[k * 2 + 1]? = some (.int .u8 l[k].2) := by
    intro l
    induction l with
    | nil => intro k hk; simp at hk
    | cons a l ih =>
      intro k hk
      cases k with
      | zero => simp [asR]
      | succ k =>
        have := ih k (by simpa using hk)
        have e : ∀ j, (asR (a :: l))[(k + 1) * 2 + j]? = (asR l)[k * 2 + j]? := fun j => by
          rw [show (k + 1) * 2 + j = (k * 2 + j) + 2 by omega]
          simp [asR]
        have e0 := e 0
        simp only [Nat.add_zero] at e0
        rw [e0, e 1]
        simpa using this
  obtain ⟨q0, q1⟩ := hl l k hk
  obtain ⟨ad, e, hb, hc⟩ := h (by intro e; rw [e] at q0; simp at q0)
  exact ⟨ad, e, hb, hc _ _ q0, by have := hc _ _ q1; rwa [← add_add', show ∀ x : Addr, x.add 1 = { block := x.block, off := x.off + 1 } from fun x => by simp [Addr.add]] at this⟩
/-- what Take gives back: a state and an error -/
def TkAt (n : Nat) (e : Int) (xs : List Value) : MSp := ⟨fun v => ∃ B d, v = STk n e d B, fun v w => ∃ B d, v = STk n e d B ∧ Rd w w.heap.size B xs⟩
theorem sts_tk (n : Nat) (e : Int) (xs : List Value) : ∀ v, Stays ((TkAt n e xs).S v) := fun v w w' ⟨B, d, e, h⟩ hb => ⟨B, d, e, h.step hb⟩
theorem tk_of {n d : Nat} {e : Int} {xs : List Value} {B : Option Addr} {w : World} (h : (TkAt n e xs).S (STk n e d B) w) : Rd w w.heap.size B xs := by
  obtain ⟨B', d', e, h⟩ := h
  injection e with e
  injection e with e
  injection e with e _
  injection e with e
  subst e
  exact h
theorem tk_m {args : Array Value} {g : FuncId} {w : World} {n : Nat} {er : Int} {xs : List Value} (h : Calls Try.prog g args w fun e w' => ∃ B d, e = .returned (STk n er d B) ∧ Rd w' w'.heap.size B xs ∧ Below w.heap.size w w') : Calls Try.prog g args w (mPost (TkAt n er xs) w) :=
  h.mono fun _ _ ⟨B, d, he, hr, hb⟩ => ⟨_, he, ⟨B, d, rfl⟩, ⟨B, d, rfl, hr⟩, hb⟩
theorem bGood_mk' {b r : Int} (h1 : 1 ≤ b ∧ b ≤ 16) (h2 : 0 ≤ r ∧ r ≤ 16) : bGood b r = true := bGood_mk h1.1 (by omega) h2.1 (by omega)
set_option maxRecDepth 100000 in
set_option maxHeartbeats 16000000 in
theorem SourceClean_walk (burst rate : Int) (A : Option Addr) (c : Nat) (l : List (Int × Int)) (w : World) (hbu : 0 ≤ burst ∧ burst ≤ 255) (hra : 0 ≤ rate ∧ rate ≤ 255) (hl : l.length ≤ maxLen) (hlb : ∀ x ∈ l, (0 ≤ x.1 ∧ x.1 ≤ 255) ∧ 0 ≤ x.2 ∧ x.2 ≤ 255) (ha : Rd w w.heap.size A (asR l)) :
    Calls Try.prog 4 #[.int .u8 burst, .int .u8 rate, .slice A l.length c] w fun e w' => e = .returned (.bool true) ∧ Below w.heap.size w w' := by
  by_cases h30 : 30 < l.length
  · have g1 : (30 : Int) < (l.length : Int) := by omega
    go_enter Try.func4, Try.ntmps4
    go_wp2_with fail
    refine (awake14_any _).mono ?_; rintro e y1 ⟨rfl, hx2⟩
    go_wp2
    go_ret
    exact ⟨rfl, by (repeat (first | with_reducible exact Below.refl _ _ | with_reducible assumption | with_reducible refine Below.drew ?_ | with_reducible refine Below.drewN ?_ _ | with_reducible refine Below.alloc1 ?_ _ | with_reducible refine Below.setCell1 ?_ (by first | omega | (simp; done) | (simp; omega)) _ | with_reducible refine Below.step ?_ (by with_reducible assumption)))⟩
  have g1 : (l.length : Int) ≤ 30 := by omega
  have hll : l.length ≤ 30 := by omega
  have m1 : burst.tmod 16 = burst % 16 := Int.tmod_eq_emod_of_nonneg hbu.1
  have m2 : rate.tmod 4 = rate % 4 := Int.tmod_eq_emod_of_nonneg hra.1
  have b1 : 0 ≤ burst % 16 ∧ burst % 16 ≤ 15 := by omega
  have b2 : 0 ≤ rate % 4 ∧ rate % 4 ≤ 3 := by omega
  clear h30
  have HLB := hide hlb
  clear hlb
  go_enter Try.func4, Try.ntmps4
  go_wp2_with fail
  obtain ⟨b, hb⟩ : ∃ b, b = 1 + burst % 16 := ⟨_, rfl⟩
  obtain ⟨r, hr⟩ : ∃ r, r = 1 + rate % 4 := ⟨_, rfl⟩
  have hb16 : 1 ≤ b ∧ b ≤ 16 := by omega
  have hr4 : 1 ≤ r ∧ r ≤ 4 := by omega
  rw [← hb, ← hr]
  have HG := hide (bGood_mk' hb16 ⟨by omega, by omega⟩ : bGood b r = true)
  clear hb hr m1 m2 b1 b2
  generalize hV : World.alloc w _ = w1
  have hb1 : Below w.heap.size w w1 := by subst hV; (repeat (first | with_reducible exact Below.refl _ _ | with_reducible assumption | with_reducible refine Below.drew ?_ | with_reducible refine Below.drewN ?_ _ | with_reducible refine Below.alloc1 ?_ _ | with_reducible refine Below.setCell1 ?_ (by first | omega | (simp; done) | (simp; omega)) _ | with_reducible refine Below.step ?_ (by with_reducible assumption)))
  have k0 : Bk w1 w.heap.size 27 [.int .i64 b, .int .i64 r] := by subst hV; (repeat (first | with_reducible exact Bk.new' _ _ _ _ (by simp; done) | with_reducible assumption | with_reducible refine Bk.alloc ?_ _ | with_reducible refine Bk.drew ?_ | with_reducible refine Bk.drewN ?_ _ | with_reducible refine Bk.step ?_ (by with_reducible assumption) | with_reducible refine Bk.far ?_ (by first | omega | (simp; done) | (simp; omega)) _))
  clear hV
  go_loopw [8, 9, 10] (fun sv nv iv wr => ∃ (k : Nat) (N : Int) (m : List En) (X : Option Addr) (d : Nat), k ≤ l.length ∧ iv = .int .i64 k ∧ nv = .int .i64 N ∧ sv = .slice X m.length d ∧ Rd wr wr.heap.size X (enR m) ∧ Hid (eCheck b r m = 0) ∧ Hid (∀ x ∈ m, x.a ≤ N) ∧ 0 ≤ N ∧ N ≤ 255 * k ∧ Bk wr w.heap.size 27 [.int .i64 b, .int .i64 r] ∧ Below w.heap.size w wr) (fun _ _ iv _ => l.length - (intOf iv).toNat)
  case atStart => exact ⟨0, 0, [], none, 0, Nat.zero_le _, rfl, rfl, rfl, Rd.nil, eCheck_of HG.out (by simp) (by simp) rfl, by simp [Hid], by omega, by omega, k0, hb1⟩
  case round =>
    clear k0 hb1
    obtain ⟨k, N, m, X, d, hk, rfl, rfl, rfl, rX, HK, HA, hN0, hNk, k0, hb⟩ := hrel
    have k0_0 := k0.cell 0; have k0_f0 := k0.frozen 0; have k0_1 := k0.cell 1; have k0_f1 := k0.frozen 1; simp only [List.set_cons_zero, List.set_cons_succ, List.getElem?_cons_zero, List.getElem?_cons_succ] at k0_0 k0_1; have lt_k0 := k0.lt
    have hm8 : m.length ≤ 8 := (eCheck_ok HK.out).2.1
    have hm1 : m.length ≤ 1000 := by omega
    by_cases hlt : k < l.length
    · obtain ⟨ad, rfl, hadb, c1, c2⟩ := (ha.below hb).as hlt
      obtain ⟨⟨x1, x2⟩, x3, x4⟩ := HLB.out _ (List.getElem_mem hlt)
      generalize l[k] = x at *
      obtain ⟨s, g⟩ := x
      dsimp only at c1 c2 x1 x2 x3 x4
      have m3 : s.tmod 8 = s % 8 := Int.tmod_eq_emod_of_nonneg x1
      have hs8 : 0 ≤ s % 8 ∧ s % 8 ≤ 7 := by omega
      have cq1 : ∀ d os, (grow (redrawn wr d) os).cell? (ad.add (k * 2)) = some (.int .u8 s) := fun d os => ((below_regrown wr d os).cell (by rw [add_block]; omega)).trans c1
      have hMy : sMay (s % 8) = true := by simp [sMay]; omega
      have HL := hide (eTake_law HK.out hMy (now := N + g) (fun x hx => by have := HA.out x hx; omega) (by omega) (by omega))
      have hT := fun W h => source_Take_any X d b r m (s % 8) (N + g) W hm1 h
      have HN : Hid (eCheck b r (eTake b r m (s % 8) (N + g)).1 = 0 ∧ ∀ x ∈ (eTake b r m (s % 8) (N + g)).1, x.a ≤ N + g) := by
        have ha1 : ∀ x ∈ eClean b r m (N + g), x.a ≤ N + g := eClean_at (fun x hx => by have := HA.out x hx; omega)
        have hc := eClean_ok (N + g) HK.out
        rcases HL.out with ⟨e, _⟩ | ⟨e, _⟩ | ⟨e, l1, l2, l3⟩
        · rw [e]; exact ⟨hc, ha1⟩
        · rw [e]; exact ⟨hc, ha1⟩
        · rw [e]
          exact ⟨ePut_ok hc hMy l3 (bFine_mk hb16.1 (by omega) (by omega) (by omega) (by omega) (by omega) (by omega) (by omega)), ePut_at ha1⟩
      clear HL hMy
      generalize eTake b r m (s % 8) (N + g) = R at *
      generalize s % 8 = s8 at *
      go_wp2_with fail
      refine wp_region_m [(10, TkAt R.1.length R.2 (enR R.1))] (by kernel_rfl) (by kernel_rfl) (by kernel_rfl) (by kernel_rfl) (sts_cons (sts_tk _ _ _) sts_nil) (fun kq => ?_); (try dsimp only [List.append])
      (repeat (refine wpM_via (by kernel_rfl) ?_; go_big_quiet_step (fail); refine wpQuiet_nil ?_))
      (refine wpM_spec _ (TkAt R.1.length R.2 (enR R.1)) (by kernel_rfl) (by kernel_rfl) rfl (later_some _) ?_ ?_; (focus (intro x hx hk; obtain ⟨px, rfl⟩ := hx; go_simp; (first | with_reducible refine mUpon_enter ?_ | with_reducible refine mUpon_value ?_); go_at_call 8; exact tk_m (hT _ (rX.step (below_regrown wr _ _))))); intro v hv K hK; obtain ⟨B2, d2, rfl⟩ := hv; go_big_quiet_op; refine hK _ ?_; clear hK K)
      (repeat (refine wpM_via (by kernel_rfl) ?_; go_big_quiet_step (fail); refine wpQuiet_nil ?_))
      refine wpM_nil ?_; intro wq hwq hfq; have hbq := below_of_class hwq; clear hwq kq; (try dsimp only [List.drop])
      have rB := tk_of hfq.1
      (try clear k0_0 k0_f0 k0_1 k0_f1 lt_k0)
      replace k0 := k0.step hbq
      replace hb : Below w.heap.size w wq := hb.step hbq
      clear hfq hbq c1 c2 cq1 hT rX
      go_wp2
      go_roundw
      case rel => exact ⟨k + 1, N + g, R.1, B2, d2, by omega, by go_num, rfl, rfl, rB, HN.out.1, HN.out.2, by omega, by omega, k0, hb⟩
      case measure => simp [intOf]; omega
    · have hNl : N ≤ 7650 := by omega
      clear hk hNk
      go_wp2_with fail
      go_loopw [11, 12, 13] (fun iv xv kv wr => ∃ (j : Nat), j ≤ 20 ∧ iv = .int .i64 j ∧ Rd wr wr.heap.size X (enR m) ∧ Bk wr w.heap.size 27 [.int .i64 b, .int .i64 r] ∧ Below w.heap.size w wr) (fun iv _ _ _ => 20 - (intOf iv).toNat)
      case atStart => exact ⟨0, by omega, rfl, rX, k0, hb⟩
      case round =>
        (try clear k0_0 k0_f0 k0_1 k0_f1 lt_k0)
        clear rX k0 hb
        obtain ⟨j, hj, rfl, rX, k0, hb⟩ := hrel
        have k0_0 := k0.cell 0; have k0_f0 := k0.frozen 0; have k0_1 := k0.cell 1; have k0_f1 := k0.frozen 1; simp only [List.set_cons_zero, List.set_cons_succ, List.getElem?_cons_zero, List.getElem?_cons_succ] at k0_0 k0_1; have lt_k0 := k0.lt
        by_cases hjt : j < 20
        · have hji : (j : Int) < 20 := by omega
          have hcl := hide (eClean_len b r m (N + j))
          have HLv1 := hide (fun (s : Int) (h : sMay s = true) => level_clean HK.out h (Int.le_refl (N + j)))
          have HLv2 := hide (fun (s : Int) (h : sMay s = true) => level_clean HK.out h (show N + j ≤ N + j + 3 by omega))
          have HZ := hide (fun (h : 16 ≤ j) => clean_none (M := N + j) HK.out HA.out hr4.1 (by omega) (by omega))
          have hC := fun W h => source_Clean_rd X d b r m (N + j) W hm1 h
          generalize eClean b r m (N + j) = z at *
          have hz8 : z.length ≤ 1000 := by have := hcl.out; omega
          go_wp2_with fail
          refine (hC _ rX).mono ?_; rintro e y1 ⟨Z, dz, rfl, rZ, hy⟩
          replace k0 := k0.step hy; (try clear k0_0 k0_f0 k0_1 k0_f1); have k0_0 := k0.cell 0; have k0_f0 := k0.frozen 0; have k0_1 := k0.cell 1; have k0_f1 := k0.frozen 1; simp only [List.set_cons_zero, List.set_cons_succ, List.getElem?_cons_zero, List.getElem?_cons_succ] at k0_0 k0_1; (try clear lt_k0); have lt_k0 := k0.lt
          replace rX := rX.step hy
          replace hb : Below w.heap.size w y1 := hb.step hy
          clear hy hC
          go_wp2_with fail
          go_loopw [13] (fun kv wr => ∃ (i : Nat), i ≤ 9 ∧ kv = .int .i64 i ∧ Rd wr wr.heap.size X (enR m) ∧ Rd wr wr.heap.size Z (enR z) ∧ Bk wr w.heap.size 27 [.int .i64 b, .int .i64 r] ∧ Below w.heap.size w wr) (fun kv _ => 9 - (intOf kv).toNat)
          case atStart => exact ⟨0, by omega, rfl, rX, rZ, k0, hb⟩
          case round =>
            (try clear k0_0 k0_f0 k0_1 k0_f1 lt_k0)
            clear rX k0 hb rZ
            obtain ⟨i, hi, rfl, rX, rZ, k0, hb⟩ := hrel
            have k0_0 := k0.cell 0; have k0_f0 := k0.frozen 0; have k0_1 := k0.cell 1; have k0_f1 := k0.frozen 1; simp only [List.set_cons_zero, List.set_cons_succ, List.getElem?_cons_zero, List.getElem?_cons_succ] at k0_0 k0_1; have lt_k0 := k0.lt
            by_cases hit : i < 9
            · have hii : (i : Int) < 9 := by omega
              have hMy : sMay (i : Int) = true := by simp [sMay]; omega
              have f1 := HLv1.out _ hMy
              have f2 := HLv2.out _ hMy
              have t1 := fun W h => (source_Level_any Z dz b r z i (N + j) W hz8 h).lit (congrArg (Value.int .i64) f1)
              have t2 := fun W h => source_Level_any X d b r m i (N + j) W hm1 h
              have t3 := fun W h => (source_Level_any Z dz b r z i (N + j + 3) W hz8 h).lit (congrArg (Value.int .i64) f2)
              have t4 := fun W h => source_Level_any X d b r m i (N + j + 3) W hm1 h
              clear f1 f2
              generalize eLevel b r m i (N + j) = v1 at *
              generalize eLevel b r m i (N + j + 3) = v2 at *
              have q1 := IntWalk.i64_in (N + j) (by omega)
              have q2 := IntWalk.i64_in (N + j + 3) (by omega)
              go_wp2_with fail
              (refine wp_region_qb (by kernel_rfl) (by kernel_rfl) (fun kq => ?_); (try dsimp only [List.append]); (repeat (go_big_quiet_step ((go_at_call 12; first | with_reducible exact (t1 _ (rZ.step (below_regrown _ _ _))).qb | with_reducible exact (t2 _ (rX.step (below_regrown _ _ _))).qb | with_reducible exact (t3 _ (rZ.step (below_regrown _ _ _))).qb | with_reducible exact (t4 _ (rX.step (below_regrown _ _ _))).qb)))); refine wpQuiet_nil ?_; intro wq hwq; have hbq := below_of_class hwq; clear hwq kq)
              (try clear k0_0 k0_f0 k0_1 k0_f1 lt_k0)
              replace k0 := k0.step hbq
              replace rX := rX.step hbq
              replace rZ := rZ.step hbq
              replace hb : Below w.heap.size w wq := hb.step hbq
              clear hbq t1 t2 t3 t4 q1 q2
              go_wp2
              go_roundw
              case rel => exact ⟨i + 1, by omega, by go_num, rX, rZ, k0, hb⟩
              case measure => simp [intOf]; omega
            · have hii : (9 : Int) ≤ (i : Int) := by omega
              (try clear k0_0 k0_f0 k0_1 k0_f1 lt_k0)
              have hzl : (z.length : Int) ≤ (m.length : Int) := by have := hcl.out; omega
              by_cases h16 : 16 ≤ j
              · have hz0 : z.length = 0 := by rw [HZ.out h16]; rfl
                have hz1 : ((z.length : Int) != 0) = false := by rw [hz0]; rfl
                have h16' : (16 : Int) ≤ (j : Int) := by omega
                have HZ0 := hide hz0
                clear hz0
                go_wp2
                go_roundw
                case rel => exact ⟨j + 1, by omega, by go_num, rX, k0, hb⟩
                case measure => simp [intOf]; omega
              · have h16' : (j : Int) < 16 := by omega
                go_wp2
                go_roundw
                case rel => exact ⟨j + 1, by omega, by go_num, rX, k0, hb⟩
                case measure => simp [intOf]; omega
        · have hji : (20 : Int) ≤ (j : Int) := by omega
          (try clear k0_0 k0_f0 k0_1 k0_f1 lt_k0)
          go_wp2_with fail
          refine (awake14_any _).mono ?_; rintro e y1 ⟨rfl, hx2⟩
          go_wp2
          go_ret
          exact ⟨rfl, hb.step hx2⟩
end Go.Proofs.Ytpjepaaaanajhaa
