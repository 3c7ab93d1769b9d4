/- callboyref17.Spread. -/
import Derived.Test.YtcgmaimfnepefaaRef17
import Derived.Test.YtcgmaimfnepefaaJit3
namespace Go.Proofs.Ytcgmaimfnepefaa
open Go.RowKit
set_option linter.unusedSimpArgs false
set_option linter.unusedVariables false

theorem r17_Spread_no {lo hi : Nat → Int} {level : Int} (h : jMay lo hi level = false) (A : Option Addr) (n c : Nat) (w : World) :
    Calls Try.prog 8 #[confV lo hi, .int .i64 level, .slice A n c] w fun e w' => e = .returned (.slice none 0 0) ∧ Below w.heap.size w w' := by
  go_enter Try.func8, Try.ntmps8
  go_wp2_with fail
  refine (r17_may_is h _).mono ?_; rintro e w2 ⟨rfl, hb2⟩
  go_wp2_with fail
  go_ret
  exact ⟨rfl, by (repeat (first | with_reducible exact Below.refl _ _ | with_reducible assumption | with_reducible refine Below.drew ?_ | with_reducible refine Below.drewN ?_ _ | with_reducible refine Below.alloc1 ?_ _ | with_reducible refine Below.setCell1 ?_ (by first | omega | (simp; done) | (simp; omega)) _ | with_reducible refine Below.step ?_ (by with_reducible assumption)))⟩
set_option maxHeartbeats 2000000 in
theorem r17_Spread_yes {lo hi : Nat → Int} {k : Nat} (h : jCheck lo hi = 0) (hk : k < 4) (A : Option Addr) (c : Nat) (l : List Int) (hlen : l.length ≤ 65536) (w : World) (ha : Rd w w.heap.size A (l.map (Value.int .i64))) :
    Calls Try.prog 8 #[confV lo hi, .int .i64 k, .slice A l.length c] w fun e w' => ∃ g W : Nat, e = .returned (.slice (some ⟨g, 0, none⟩) W W) ∧ (W : Int) = hi k - lo k + 1 ∧ Bk w' g 3 ((jSp (lo k) (hi k) W l).map (Value.int .i64)) ∧ w.heap.size ≤ g ∧ Below w.heap.size w w' := by
  have hr := jCheck_t h hk
  have hm : jMay lo hi k = true := by simp [jMay, jIn, h]; omega
  have HM := hide hm
  have H := hide h
  clear h hm
  obtain ⟨W, hW⟩ : ∃ W : Nat, (W : Int) = hi k - lo k + 1 := ⟨(hi k - lo k + 1).toNat, by omega⟩
  obtain ⟨i0, hi0, hz, hsz, hby⟩ := info_parts int_info
  have hmk : ∀ V, _ := fun V => run_make1 (P := Try.prog) 25 3 i0 (.int .i64 0) Try.underlying25 hi0 hz rfl hsz W (by rw [hby]; omega) (by omega) V
  have HW := hide hW
  rw [hW] at hmk
  clear hW
  go_enter Try.func8, Try.ntmps8
  go_wp2_with fail
  generalize hV : World.alloc w _ = w1
  have hb1 : Below w.heap.size w w1 := by subst hV; (repeat (first | with_reducible exact Below.refl _ _ | with_reducible assumption | with_reducible refine Below.drew ?_ | with_reducible refine Below.drewN ?_ _ | with_reducible refine Below.alloc1 ?_ _ | with_reducible refine Below.setCell1 ?_ (by first | omega | (simp; done) | (simp; omega)) _ | with_reducible refine Below.step ?_ (by with_reducible assumption)))
  have k0 : Bk w1 w.heap.size 24 (confC lo hi) := by subst hV; (repeat (first | with_reducible exact Bk.new' _ _ _ _ (by simp; done) | with_reducible assumption | with_reducible refine Bk.alloc ?_ _ | with_reducible refine Bk.drew ?_ | with_reducible refine Bk.drewN ?_ _ | with_reducible refine Bk.step ?_ (by with_reducible assumption) | with_reducible refine Bk.far ?_ (by first | omega | (simp; done) | (simp; omega)) _))
  have l0 := k0.lt
  clear hV
  refine (r17_may_is HM.out _).mono ?_; rintro e w2 ⟨rfl, hb2⟩
  have k2 := k0.step hb2
  have l2 := k2.lt
  have k2_0 := k2.cell 0; have k2_f0 := k2.frozen 0; have k2_1 := k2.cell 1; have k2_f1 := k2.frozen 1; have k2_2 := k2.cell 2; have k2_f2 := k2.frozen 2; have k2_3 := k2.cell 3; have k2_f3 := k2.frozen 3; have k2_4 := k2.cell 4; have k2_f4 := k2.frozen 4; have k2_5 := k2.cell 5; have k2_f5 := k2.frozen 5; have k2_6 := k2.cell 6; have k2_f6 := k2.frozen 6; have k2_7 := k2.cell 7; have k2_f7 := k2.frozen 7; simp only [List.set_cons_zero, List.set_cons_succ, List.getElem?_cons_zero, List.getElem?_cons_succ] at k2_0 k2_1 k2_2 k2_3 k2_4 k2_5 k2_6 k2_7
  go_wp2_with fail
  refine (r17_Width_yes H.out hk _).mono ?_; rintro e w3 ⟨rfl, hb3⟩
  go_wp2_with fail
  clear hmk k2_0 k2_1 k2_2 k2_3 k2_4 k2_5 k2_6 k2_7 k2_f0 k2_f1 k2_f2 k2_f3 k2_f4 k2_f5 k2_f6 k2_f7
  have k3 := k2.step hb3
  generalize hV : World.alloc w3 _ = w4
  have hbel : Below w.heap.size w w4 := by subst hV; (repeat (first | with_reducible exact Below.refl _ _ | with_reducible assumption | with_reducible refine Below.drew ?_ | with_reducible refine Below.drewN ?_ _ | with_reducible refine Below.alloc1 ?_ _ | with_reducible refine Below.setCell1 ?_ (by first | omega | (simp; done) | (simp; omega)) _ | with_reducible refine Below.step ?_ (by with_reducible assumption)))
  have j0 : Bk w4 w.heap.size 24 (confC lo hi) := by subst hV; (repeat (first | with_reducible exact Bk.new' _ _ _ _ (by simp; done) | with_reducible assumption | with_reducible refine Bk.alloc ?_ _ | with_reducible refine Bk.drew ?_ | with_reducible refine Bk.drewN ?_ _ | with_reducible refine Bk.step ?_ (by with_reducible assumption) | with_reducible refine Bk.far ?_ (by first | omega | (simp; done) | (simp; omega)) _))
  have k4 : Bk w4 w3.heap.size 3 ((jSp (lo k) (hi k) W []).map (Value.int .i64)) := by subst hV; simpa [jSp, Bk] using Bk.new w3 3 (List.replicate W (.int .i64 0))
  have hz2 : w.heap.size < w3.heap.size := k3.lt
  generalize w3.heap.size = g at *
  clear hV hb2 hb3 k2 k3 k0 hb1 l0 l2
  go_loopw [8] (fun i wr => ∃ j : Nat, j ≤ l.length ∧ i = .int .i64 j ∧ Bk wr g 3 ((jSp (lo k) (hi k) W (l.take j)).map (Value.int .i64)) ∧ Bk wr w.heap.size 24 (confC lo hi) ∧ Below w.heap.size w wr) (fun i _ => l.length - (intOf i).toNat)
  case atStart => exact ⟨0, Nat.zero_le _, rfl, k4, j0, hbel⟩
  case round =>
    obtain ⟨j, hj, rfl, hbk, p0, hbr⟩ := hrel
    clear k4 j0 hbel
    have lp0 := p0.lt
    have lbk := hbk.lt
    by_cases hlt : j < l.length
    · obtain ⟨ad, rfl, hadb, hca⟩ := ha.at_ (k := j) (by simpa using hlt)
      have hadj : (ad.add j).block < w.heap.size := by rw [add_block]; exact hadb
      have hc1 : wr.cell? (ad.add j) = some (.int .i64 l[j]) := by rw [hbr.cell hadj, hca]; simp
      have HS := hide (take_snoc' l j hlt)
      clear hca
      generalize l[j] = n at *
      have hcg : ∀ (d : Nat) (os : Array Obj), (Go.Sort.grow (redrawn wr d) os).cell? (ad.add j) = some (.int .i64 n) := fun d os => ((below_regrown wr d os).cell (by omega)).trans hc1
      cases hin : jIn n (lo k) (hi k)
      · have HIN := hide hin
        clear hin
        have p0_0 := p0.cell 0; have p0_f0 := p0.frozen 0; have p0_1 := p0.cell 1; have p0_f1 := p0.frozen 1; have p0_2 := p0.cell 2; have p0_f2 := p0.frozen 2; have p0_3 := p0.cell 3; have p0_f3 := p0.frozen 3; have p0_4 := p0.cell 4; have p0_f4 := p0.frozen 4; have p0_5 := p0.cell 5; have p0_f5 := p0.frozen 5; have p0_6 := p0.cell 6; have p0_f6 := p0.frozen 6; have p0_7 := p0.cell 7; have p0_f7 := p0.frozen 7; simp only [List.set_cons_zero, List.set_cons_succ, List.getElem?_cons_zero, List.getElem?_cons_succ] at p0_0 p0_1 p0_2 p0_3 p0_4 p0_5 p0_6 p0_7
        go_wp2_with fail
        (refine wp_region_qb (by kernel_rfl) (by kernel_rfl) (fun kq => ?_); (try dsimp only [List.append]); (repeat (go_big_quiet_step (((go_at_call 19; exact ((r17_Within_yes H.out hk _ _).lit (v' := .bool false) (by rw [HIN.out])).qb))))); refine wpQuiet_nil ?_; intro wq hwq; have hbq := below_of_class hwq; clear hwq kq)
        go_wp2_with fail
        go_roundw
        case rel => exact ⟨j + 1, by omega, by go_num, by rw [HS.out, jSp_snoc, jStep, HIN.out]; exact hbk.step hbq, p0.step hbq, by (repeat (first | with_reducible exact Below.refl _ _ | with_reducible assumption | with_reducible refine Below.drew ?_ | with_reducible refine Below.drewN ?_ _ | with_reducible refine Below.alloc1 ?_ _ | with_reducible refine Below.setCell1 ?_ (by first | omega | (simp; done) | (simp; omega)) _ | with_reducible refine Below.step ?_ (by with_reducible assumption)))⟩
        case measure => simp [intOf]; omega
      · have hin' := jIn_t hin
        have HIN := hide hin
        clear hin
        have h3 := jSp_length (lo k) (hi k) W (l.take j)
        obtain ⟨i, hni⟩ : ∃ i : Nat, n - lo k = i := ⟨(n - lo k).toNat, by omega⟩
        have hWo := HW.out
        have hix : i < (jSp (lo k) (hi k) W (l.take j)).length := by omega
        have hv := jSp_le (lo k) (hi k) W (l.take j) _ (List.getElem_mem hix)
        have h5 : (l.take j).length ≤ j := List.length_take_le _ _
        have HE : Hid (jSp (lo k) (hi k) W (l.take (j + 1)) = (jSp (lo k) (hi k) W (l.take j)).set i ((jSp (lo k) (hi k) W (l.take j))[i] + 1)) := by
          rw [HS.out, jSp_snoc, jStep, HIN.out, if_pos rfl, hni, Int.toNat_natCast, bump, List.getElem?_eq_getElem hix]; exact rfl
        have HI := hide hni
        clear hni
        have hiW : i < W := by omega
        have p0_0 := p0.cell 0; have p0_f0 := p0.frozen 0; have p0_1 := p0.cell 1; have p0_f1 := p0.frozen 1; have p0_2 := p0.cell 2; have p0_f2 := p0.frozen 2; have p0_3 := p0.cell 3; have p0_f3 := p0.frozen 3; have p0_4 := p0.cell 4; have p0_f4 := p0.frozen 4; have p0_5 := p0.cell 5; have p0_f5 := p0.frozen 5; have p0_6 := p0.cell 6; have p0_f6 := p0.frozen 6; have p0_7 := p0.cell 7; have p0_f7 := p0.frozen 7; simp only [List.set_cons_zero, List.set_cons_succ, List.getElem?_cons_zero, List.getElem?_cons_succ] at p0_0 p0_1 p0_2 p0_3 p0_4 p0_5 p0_6 p0_7
        go_wp2_with fail
        (refine wp_region_qb (by kernel_rfl) (by kernel_rfl) (fun kq => ?_); (try dsimp only [List.append]); (repeat (go_big_quiet_step (((go_at_call 19; exact ((r17_Within_yes H.out hk _ _).lit (v' := .bool true) (by rw [HIN.out])).qb))))); refine wpQuiet_nil ?_; intro wq hwq; have hbq := below_of_class hwq; clear hwq kq)
        have q0 := p0.step hbq
        have qk := hbk.step hbq
        have lq0 := q0.lt
        have lqk := qk.lt
        have c1 := lo_cell q0 hk
        have c2 : wq.cell? (ad.add j) = some (.int .i64 n) := (hbq.cell (by omega)).trans hc1
        have c3 : wq.cell? ⟨g, i, none⟩ = some (.int .i64 (jSp (lo k) (hi k) W (l.take j))[i]) := by rw [qk.cell]; simp [hix]
        have c4 := qk.frozen i
        have hb2 : Below w.heap.size w wq := by (repeat (first | with_reducible exact Below.refl _ _ | with_reducible assumption | with_reducible refine Below.drew ?_ | with_reducible refine Below.drewN ?_ _ | with_reducible refine Below.alloc1 ?_ _ | with_reducible refine Below.setCell1 ?_ (by first | omega | (simp; done) | (simp; omega)) _ | with_reducible refine Below.step ?_ (by with_reducible assumption)))
        have HB := hide qk
        have HQ := hide q0
        generalize hvv : (jSp (lo k) (hi k) W (l.take j))[i] = v at *
        clear hvv hbk h3 p0 p0_0 p0_1 p0_2 p0_3 p0_4 p0_5 p0_6 p0_7 p0_f0 p0_f1 p0_f2 p0_f3 p0_f4 p0_f5 p0_f6 p0_f7 hcg hc1 hbq hbr
        have i1 := HI.out
        have b1 : 0 ≤ n - lo k := by omega
        have b2 : n - lo k < (W : Int) := by omega
        have b3 : (n - lo k).toNat = i := by omega
        have s1 : IntKind.i64.wrap (n - lo k) = n - lo k := IntWalk.i64_in _ (by omega)
        have s2 : IntKind.i64.wrap (v + 1) = v + 1 := IntWalk.i64_in _ (by omega)
        clear i1
        go_wp2_with fail
        go_region
        go_wp2_with fail
        go_roundw
        case rel =>
          refine ⟨j + 1, by omega, by go_num, ?_, (HQ.out.far (p := ⟨g, i, none⟩) (by dsimp only; omega) _).drew, (hb2.setCell (p := ⟨g, i, none⟩) (by dsimp only; omega) _).drew⟩
          rw [HE.out, List.map_set]
          exact (HB.out.set_ i _).drew
        case measure => simp [intOf]; omega
    · go_wp2_with fail
      go_ret
      exact ⟨g, W, rfl, HW.out, by rwa [List.take_of_length_le (by omega)] at hbk, by omega, hbr⟩
end Go.Proofs.Ytcgmaimfnepefaa
