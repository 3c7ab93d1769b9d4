/- The walk of DrrWorks. -/
import Derived.Test.YteblbleehnkcmaaRef28p
namespace Go.Proofs.Yteblbleehnkcmaa
open Go.RowKit Go.Sort
set_option linter.unusedSimpArgs false
set_option linter.unusedVariables false

set_option maxRecDepth 100000 in
set_option maxHeartbeats 16000000 in
theorem DrrWorks_walk (A L : Option Addr) (c d : Nat) (l : List Fl) (at_ : Int) (mid : Bool) (t : Int) (ld : List Ld) (w : World) (hl : l.length ≤ maxLen) (hld : ld.length ≤ maxLen) (hxl : ∀ x ∈ ld, x.xs.length ≤ maxLen) (ht : 0 ≤ t ∧ t ≤ 65535) (ha : Rd w w.heap.size A (flR l)) (hL : Lds w w.heap.size L ld) :
    Calls Try.prog 6 #[rsV A l.length c at_ mid, .int .u16 t, .slice L ld.length d] w fun e w' => e = .returned (.bool true) ∧ Below w.heap.size w w' := by
  by_cases h1 : 20 < l.length
  · have g1 : (20 : Int) < (l.length : Int) := by omega
    clear hxl
    go_enter Try.func6, Try.ntmps6
    go_wp2_with fail
    refine (awake28_any _).mono ?_; rintro e y1 ⟨rfl, hx2⟩
    go_wp2
    go_ret
    exact ⟨rfl, by (repeat (first | with_reducible exact Below.refl _ _ | with_reducible assumption | with_reducible refine Below.drew ?_ | with_reducible refine Below.drewN ?_ _ | with_reducible refine Below.alloc1 ?_ _ | with_reducible refine Below.setCell1 ?_ (by first | omega | (simp; done) | (simp; omega)) _ | with_reducible refine Below.step ?_ (by with_reducible assumption)))⟩
  have g1 : (l.length : Int) ≤ 20 := by omega
  have hLi := fun W h => ref_Light_any L d ld W hld hxl h
  cases hlg : lLight ld with
  | false =>
    rw [hlg] at hLi
    clear h1 hxl
    go_enter Try.func6, Try.ntmps6
    go_wp2_with fail
    generalize hV : World.alloc w _ = w1
    have hb0 : Below w.heap.size w w1 := by subst hV; (repeat (first | with_reducible exact Below.refl _ _ | with_reducible assumption | with_reducible refine Below.drew ?_ | with_reducible refine Below.drewN ?_ _ | with_reducible refine Below.alloc1 ?_ _ | with_reducible refine Below.setCell1 ?_ (by first | omega | (simp; done) | (simp; omega)) _ | with_reducible refine Below.step ?_ (by with_reducible assumption)))
    clear hV
    refine (hLi _ ((hL.below hb0).more hb0.size)).mono ?_; rintro e y0 ⟨rfl, hy⟩
    go_wp2_with fail
    refine (awake28_any _).mono ?_; rintro e y1 ⟨rfl, hx2⟩
    go_wp2
    go_ret
    exact ⟨rfl, by (repeat (first | with_reducible exact Below.refl _ _ | with_reducible assumption | with_reducible refine Below.drew ?_ | with_reducible refine Below.drewN ?_ _ | with_reducible refine Below.alloc1 ?_ _ | with_reducible refine Below.setCell1 ?_ (by first | omega | (simp; done) | (simp; omega)) _ | with_reducible refine Below.step ?_ (by with_reducible assumption)))⟩
  | true =>
    rw [hlg] at hLi
    obtain ⟨q1, q2⟩ := lLight_ok hlg
    have hl1 : l.length ≤ 1000 := by omega
    have hm1 : ld.length ≤ 1000 := by omega
    have HX := hide (show ∀ x ∈ ld, x.xs.length ≤ 1000 from fun x hx => by have := q2 x hx; omega)
    have HSL := hide (dServe_len l at_ mid 200 t ld)
    have HWK := hide (dServe_works (l := l) (at_ := at_) (mid := mid) (q := 200) (t := t) (ld := ld))
    have HE := hide (show (dServe l at_ mid 200 t ld).e ≠ 0 → (dServe l at_ mid 200 t ld).fl = l ∧ (dServe l at_ mid 200 t ld).at_ = at_ ∧ (dServe l at_ mid 200 t ld).mid = mid ∧ (dServe l at_ mid 200 t ld).went = [] from by
      unfold dServe
      split
      · intro _; exact ⟨rfl, rfl, rfl, rfl⟩
      · split
        · intro _; exact ⟨rfl, rfl, rfl, rfl⟩
        · intro h; exact absurd rfl h)
    clear h1 hxl hlg q2
    go_enter Try.func6, Try.ntmps6
    go_wp2_with fail
    generalize hV : World.alloc w _ = w1
    have hb0 : Below w.heap.size w w1 := by subst hV; (repeat (first | with_reducible exact Below.refl _ _ | with_reducible assumption | with_reducible refine Below.drew ?_ | with_reducible refine Below.drewN ?_ _ | with_reducible refine Below.alloc1 ?_ _ | with_reducible refine Below.setCell1 ?_ (by first | omega | (simp; done) | (simp; omega)) _ | with_reducible refine Below.step ?_ (by with_reducible assumption)))
    have k0 : Bk w1 w.heap.size 24 (dsC A l.length c at_ mid) := by subst hV; (repeat (first | with_reducible exact Bk.new' _ _ _ _ (by simp; done) | with_reducible assumption | with_reducible refine Bk.alloc ?_ _ | with_reducible refine Bk.drew ?_ | with_reducible refine Bk.drewN ?_ _ | with_reducible refine Bk.step ?_ (by with_reducible assumption) | with_reducible refine Bk.far ?_ (by first | omega | (simp; done) | (simp; omega)) _))
    clear hV
    have rA := (ha.below hb0).more hb0.size
    have rL := (hL.below hb0).more hb0.size
    have k0_0 := k0.cell 0; have k0_f0 := k0.frozen 0; have k0_1 := k0.cell 1; have k0_f1 := k0.frozen 1; have k0_2 := k0.cell 2; have k0_f2 := k0.frozen 2; simp only [List.set_cons_zero, List.set_cons_succ, List.getElem?_cons_zero, List.getElem?_cons_succ] at k0_0 k0_1 k0_2; have lt_k0 := k0.lt
    refine (hLi _ rL).mono ?_; rintro e y0 ⟨rfl, hx1⟩
    clear hLi
    replace k0 := k0.step hx1; (try clear k0_0 k0_f0 k0_1 k0_f1 k0_2 k0_f2); have k0_0 := k0.cell 0; have k0_f0 := k0.frozen 0; have k0_1 := k0.cell 1; have k0_f1 := k0.frozen 1; have k0_2 := k0.cell 2; have k0_f2 := k0.frozen 2; simp only [List.set_cons_zero, List.set_cons_succ, List.getElem?_cons_zero, List.getElem?_cons_succ] at k0_0 k0_1 k0_2; (try clear lt_k0); have lt_k0 := k0.lt
    replace hb0 : Below w.heap.size w y0 := hb0.step hx1
    replace rA := rA.step hx1; replace rL := rL.step hx1
    clear hx1
    go_wp2_with fail
    refine (law_loads_any L d ld _ hm1 rL).mono ?_; rintro e y1 ⟨M, dm, rfl, rM, hx1⟩
    replace k0 := k0.step hx1; (try clear k0_0 k0_f0 k0_1 k0_f1 k0_2 k0_f2); have k0_0 := k0.cell 0; have k0_f0 := k0.frozen 0; have k0_1 := k0.cell 1; have k0_f1 := k0.frozen 1; have k0_2 := k0.cell 2; have k0_f2 := k0.frozen 2; simp only [List.set_cons_zero, List.set_cons_succ, List.getElem?_cons_zero, List.getElem?_cons_succ] at k0_0 k0_1 k0_2; (try clear lt_k0); have lt_k0 := k0.lt
    replace hb0 : Below w.heap.size w y1 := hb0.step hx1
    replace rA := rA.step hx1; replace rL := rL.step hx1
    clear hx1
    go_wp2_with fail
    refine (law_own_any A c l at_ mid _ hl1 rA).mono ?_; rintro e y2 ⟨A7, c7, rfl, _, r7, hx1⟩
    replace k0 := k0.step hx1; (try clear k0_0 k0_f0 k0_1 k0_f1 k0_2 k0_f2); have k0_0 := k0.cell 0; have k0_f0 := k0.frozen 0; have k0_1 := k0.cell 1; have k0_f1 := k0.frozen 1; have k0_2 := k0.cell 2; have k0_f2 := k0.frozen 2; simp only [List.set_cons_zero, List.set_cons_succ, List.getElem?_cons_zero, List.getElem?_cons_succ] at k0_0 k0_1 k0_2; (try clear lt_k0); have lt_k0 := k0.lt
    replace hb0 : Below w.heap.size w y2 := hb0.step hx1
    replace rA := rA.step hx1; replace rL := rL.step hx1; replace rM := rM.step hx1
    clear hx1
    go_wp2_with fail
    refine (drr_Serve_any A7 M c7 dm l at_ mid 200 t ld _ hl1 hm1 HX.out r7 rM).mono ?_; rintro e y3 ⟨_, Ba, ba, rfl, ⟨Aa, ca, rfl, raa, _⟩, rBa, hx1⟩
    replace k0 := k0.step hx1; (try clear k0_0 k0_f0 k0_1 k0_f1 k0_2 k0_f2); have k0_0 := k0.cell 0; have k0_f0 := k0.frozen 0; have k0_1 := k0.cell 1; have k0_f1 := k0.frozen 1; have k0_2 := k0.cell 2; have k0_f2 := k0.frozen 2; simp only [List.set_cons_zero, List.set_cons_succ, List.getElem?_cons_zero, List.getElem?_cons_succ] at k0_0 k0_1 k0_2; (try clear lt_k0); have lt_k0 := k0.lt
    replace hb0 : Below w.heap.size w y3 := hb0.step hx1
    replace rA := rA.step hx1; replace rL := rL.step hx1; replace r7 := r7.step hx1; replace rM := rM.step hx1
    clear hx1
    generalize dServe l at_ mid 200 t ld = R at *
    by_cases he : R.e = 0
    · have hw := HWK.out he
      have HW := hide hw
      have hgl : R.went.length = R.fl.length := by have := hw.fl; have := hw.went; omega
      have hne : ((R.went.length : Int) != (R.fl.length : Int)) = false := by rw [bne_eq_false_iff_eq]; omega
      have hK := fun W h => drr_Check_any Aa ca R.fl R.at_ R.mid W (by have := hw.fl; omega) h
      rw [hw.check] at hK
      have hee : (R.e != 0) = false := by rw [he]; rfl
      rw [he]
      clear HWK HE he hw HSL
      go_wp2_with fail
      generalize hV : World.alloc y3 _ = z3
      have hy : Below y3.heap.size y3 z3 := by subst hV; (repeat (first | with_reducible exact Below.refl _ _ | with_reducible assumption | with_reducible refine Below.drew ?_ | with_reducible refine Below.drewN ?_ _ | with_reducible refine Below.alloc1 ?_ _ | with_reducible refine Below.setCell1 ?_ (by first | omega | (simp; done) | (simp; omega)) _ | with_reducible refine Below.step ?_ (by with_reducible assumption)))
      have ka : Bk z3 y3.heap.size 31 (dsC Aa R.fl.length ca R.at_ R.mid) := by subst hV; (repeat (first | with_reducible exact Bk.new' _ _ _ _ (by simp; done) | with_reducible assumption | with_reducible refine Bk.alloc ?_ _ | with_reducible refine Bk.drew ?_ | with_reducible refine Bk.drewN ?_ _ | with_reducible refine Bk.step ?_ (by with_reducible assumption) | with_reducible refine Bk.far ?_ (by first | omega | (simp; done) | (simp; omega)) _))
      clear hV
      replace k0 := k0.step hy; (try clear k0_0 k0_f0 k0_1 k0_f1 k0_2 k0_f2); have k0_0 := k0.cell 0; have k0_f0 := k0.frozen 0; have k0_1 := k0.cell 1; have k0_f1 := k0.frozen 1; have k0_2 := k0.cell 2; have k0_f2 := k0.frozen 2; simp only [List.set_cons_zero, List.set_cons_succ, List.getElem?_cons_zero, List.getElem?_cons_succ] at k0_0 k0_1 k0_2; (try clear lt_k0); have lt_k0 := k0.lt
      replace hb0 : Below w.heap.size w z3 := hb0.step hy
      replace rA := rA.step hy; replace rL := rL.step hy; replace r7 := r7.step hy; replace rM := rM.step hy; replace raa := raa.step hy; replace rBa := rBa.step hy
      have ka_0 := ka.cell 0; have ka_f0 := ka.frozen 0; have ka_1 := ka.cell 1; have ka_f1 := ka.frozen 1; have ka_2 := ka.cell 2; have ka_f2 := ka.frozen 2; simp only [List.set_cons_zero, List.set_cons_succ, List.getElem?_cons_zero, List.getElem?_cons_succ] at ka_0 ka_1 ka_2; have lt_ka := ka.lt
      clear hy
      refine (hK _ raa).mono ?_; rintro e y4 ⟨rfl, hx1⟩
      clear hK
      replace k0 := k0.step hx1; (try clear k0_0 k0_f0 k0_1 k0_f1 k0_2 k0_f2); have k0_0 := k0.cell 0; have k0_f0 := k0.frozen 0; have k0_1 := k0.cell 1; have k0_f1 := k0.frozen 1; have k0_2 := k0.cell 2; have k0_f2 := k0.frozen 2; simp only [List.set_cons_zero, List.set_cons_succ, List.getElem?_cons_zero, List.getElem?_cons_succ] at k0_0 k0_1 k0_2; (try clear lt_k0); have lt_k0 := k0.lt; replace ka := ka.step hx1; (try clear ka_0 ka_f0 ka_1 ka_f1 ka_2 ka_f2); have ka_0 := ka.cell 0; have ka_f0 := ka.frozen 0; have ka_1 := ka.cell 1; have ka_f1 := ka.frozen 1; have ka_2 := ka.cell 2; have ka_f2 := ka.frozen 2; simp only [List.set_cons_zero, List.set_cons_succ, List.getElem?_cons_zero, List.getElem?_cons_succ] at ka_0 ka_1 ka_2; (try clear lt_ka); have lt_ka := ka.lt
      replace hb0 : Below w.heap.size w y4 := hb0.step hx1
      replace rA := rA.step hx1; replace rL := rL.step hx1; replace r7 := r7.step hx1; replace rM := rM.step hx1; replace raa := raa.step hx1; replace rBa := rBa.step hx1
      clear hx1
      go_wp2_with fail
      have hFL := hide (show R.fl.length = l.length from HW.out.fl)
      have n20 : (R.went.length : Int) ≤ 20 := by have := HW.out.fl; omega
      have hgl2 : R.went.length ≤ R.fl.length ∧ R.fl.length ≤ R.went.length := by omega
      (try clear k0_0 k0_f0 k0_1 k0_f1 k0_2 k0_f2 lt_k0) ; (try clear ka_0 ka_f0 ka_1 ka_f1 ka_2 ka_f2 lt_ka)
      clear hgl hne
      go_loopw [11, 12, 13] (fun sv wv iv wr => ∃ k : Nat, k ≤ R.went.length ∧ iv = .int .i64 k ∧ (∃ S, sv = .int .i64 S ∧ Hid (S = wSum ld (R.fl.take k) (R.went.take k)) ∧ 0 ≤ S ∧ S ≤ 128000 * (k : Int)) ∧ (∃ b, wv = .bool b ∧ Hid (b = wPre ld R.fl R.went k)) ∧ Bk wr w.heap.size 24 (dsC A l.length c at_ mid) ∧ Bk wr y3.heap.size 31 (dsC Aa R.fl.length ca R.at_ R.mid) ∧ Below y4.heap.size y4 wr) (fun _ _ iv _ => R.went.length - (intOf iv).toNat)
      case atStart => exact ⟨0, Nat.zero_le _, rfl, ⟨0, rfl, by unfold Hid; simp [wSum], by omega, by omega⟩, ⟨false, rfl, rfl⟩, k0, ka, Below.refl _ _⟩
      case round =>
        clear k0 ka
        obtain ⟨k, hk, rfl, ⟨S, rfl, HS, hS0, hS1⟩, ⟨b, rfl, HB⟩, k0, ka, hyr⟩ := hrel
        have hb1 : Below w.heap.size w wr := hb0.trans (hyr.mono hb0.size)
        have raw := (raa.below hyr).more hyr.size
        have rBw := (rBa.below hyr).more hyr.size
        have rMw := (rM.below hyr).more hyr.size
        have k0_0 := k0.cell 0; have k0_f0 := k0.frozen 0; have k0_1 := k0.cell 1; have k0_f1 := k0.frozen 1; have k0_2 := k0.cell 2; have k0_f2 := k0.frozen 2; simp only [List.set_cons_zero, List.set_cons_succ, List.getElem?_cons_zero, List.getElem?_cons_succ] at k0_0 k0_1 k0_2; have lt_k0 := k0.lt; have ka_0 := ka.cell 0; have ka_f0 := ka.frozen 0; have ka_1 := ka.cell 1; have ka_f1 := ka.frozen 1; have ka_2 := ka.cell 2; have ka_f2 := ka.frozen 2; simp only [List.set_cons_zero, List.set_cons_succ, List.getElem?_cons_zero, List.getElem?_cons_succ] at ka_0 ka_1 ka_2; have lt_ka := ka.lt
        by_cases hlt : k < R.went.length
        · have hlf : k < R.fl.length := by omega
          obtain ⟨ad, hAa, hadb, f1, _, _⟩ := raa.fl hlf
          obtain ⟨bd, hBa, hbdb, g1c⟩ := Rd.in rBa hlt
          obtain ⟨e0, e1⟩ := HW.out.each k hlf hlt
          have hzs := dWait_sizes HW.out.sizes R.fl[k].id
          have HSN := hide (wSum_snoc ld R.fl R.went k hlf hlt)
          have HPN := hide (wPre_snoc ld R.fl R.went k hlf hlt)
          have hx0l : (dWait ld R.fl[k].id).xs.length ≤ 1000 := by
            rcases dWait_mem ld R.fl[k].id with e | e
            · rw [e]; simp
            · exact HX.out _ e
          obtain ⟨gn, hgn⟩ : ∃ gn : Nat, R.went[k] = (gn : Int) := ⟨R.went[k].toNat, by omega⟩
          rw [hgn] at HSN HPN e1 g1c
          have hLf := fun (j : Int) (W : World) (h : Lds W W.heap.size M ld) => law_left_any M dm ld R.fl[k].id j W hm1 HX.out h
          have hLv : ∀ j : Nat, (hj : j < gn) → dLeft ld R.fl[k].id (j : Int) = ((dWait ld R.fl[k].id).xs.getD j 0, true) := fun j hj => by
            unfold dLeft; rw [if_pos ⟨by omega, by omega⟩]; rfl
          generalize hdl : dLeft ld R.fl[k].id (gn : Int) = DL at *
          subst hAa
          subst hBa
          have hDL : dLeft ld R.fl[k].id (gn : Int) = DL := hdl
          clear hdl
          replace hDL := hide hDL
          have HLV := hide hLv
          have HZS := hide hzs
          clear hLv hzs
          generalize hid : R.fl[k].id = id at *
          have hgi : gn ≤ (dWait ld id).xs.length := by omega
          generalize (dWait ld id).xs = xs at *
          clear hid
          go_wp2
          (try clear k0_0 k0_f0 k0_1 k0_f1 k0_2 k0_f2 lt_k0) ; (try clear ka_0 ka_f0 ka_1 ka_f1 ka_2 ka_f2 lt_ka)
          go_loopw [11, 14] (fun sv jv wr2 => ∃ j : Nat, j ≤ gn ∧ jv = .int .i64 j ∧ (∃ T, sv = .int .i64 T ∧ Hid (T = S + (xs.take j).sum)) ∧ Bk wr2 w.heap.size 24 (dsC A l.length c at_ mid) ∧ Bk wr2 y3.heap.size 31 (dsC (some ad) R.fl.length ca R.at_ R.mid) ∧ Below y4.heap.size y4 wr2) (fun _ jv _ => gn - (intOf jv).toNat)
          case atStart => exact ⟨0, Nat.zero_le _, rfl, ⟨S, rfl, by unfold Hid; simp⟩, k0, ka, hyr⟩
          case round =>
            clear k0 ka
            obtain ⟨j, hj, rfl, ⟨T, rfl, HT⟩, k0, ka, hy2⟩ := hrel
            have rM2 := (rM.below hy2).more hy2.size
            have f2 := (hy2.cell (p := ad.add (k * 3)) (by rw [add_block]; exact hadb)).trans f1
            have g2 := (hy2.cell (p := bd.add k) (by rw [add_block]; exact hbdb)).trans g1c
            have k0_0 := k0.cell 0; have k0_f0 := k0.frozen 0; have k0_1 := k0.cell 1; have k0_f1 := k0.frozen 1; have k0_2 := k0.cell 2; have k0_f2 := k0.frozen 2; simp only [List.set_cons_zero, List.set_cons_succ, List.getElem?_cons_zero, List.getElem?_cons_succ] at k0_0 k0_1 k0_2; have lt_k0 := k0.lt; have ka_0 := ka.cell 0; have ka_f0 := ka.frozen 0; have ka_1 := ka.cell 1; have ka_f1 := ka.frozen 1; have ka_2 := ka.cell 2; have ka_f2 := ka.frozen 2; simp only [List.set_cons_zero, List.set_cons_succ, List.getElem?_cons_zero, List.getElem?_cons_succ] at ka_0 ka_1 ka_2; have lt_ka := ka.lt
            by_cases hjl : j < gn
            · have hjx : j < xs.length := by omega
              have hv := HLV.out j hjl
              have hgd : xs.getD j 0 = xs[j] := by simp [hjx]
              rw [hgd] at hv
              have hz := HZS.out _ (List.getElem_mem hjx)
              have hsi := sum_in HZS.out j
              have HSS := hide (sum_snoc hjx)
              have hL1 := hLf (j : Int) wr rM2
              rw [hv] at hL1
              have hTb : T = S + (xs.take j).sum := HT.out
              have hTb2 : 0 ≤ T ∧ T ≤ 128000 * (k : Int) + 128 * (j : Int) := by omega
              have hw9 : IntKind.i64.wrap (T + xs[j]) = T + xs[j] := IntWalk.i64_in _ (by omega)
              have hfin : Hid (T + xs[j] = S + (xs.take (j + 1)).sum) := by unfold Hid; rw [HSS.out, hTb]; omega
              clear hv hgd hsi hTb HSS HT
              generalize xs[j] = z at *
              go_wp2_with fail
              refine hL1.mono ?_; rintro e w5 ⟨rfl, hx1⟩
              clear hL1
              replace k0 := k0.step hx1; (try clear k0_0 k0_f0 k0_1 k0_f1 k0_2 k0_f2); have k0_0 := k0.cell 0; have k0_f0 := k0.frozen 0; have k0_1 := k0.cell 1; have k0_f1 := k0.frozen 1; have k0_2 := k0.cell 2; have k0_f2 := k0.frozen 2; simp only [List.set_cons_zero, List.set_cons_succ, List.getElem?_cons_zero, List.getElem?_cons_succ] at k0_0 k0_1 k0_2; (try clear lt_k0); have lt_k0 := k0.lt; replace ka := ka.step hx1; (try clear ka_0 ka_f0 ka_1 ka_f1 ka_2 ka_f2); have ka_0 := ka.cell 0; have ka_f0 := ka.frozen 0; have ka_1 := ka.cell 1; have ka_f1 := ka.frozen 1; have ka_2 := ka.cell 2; have ka_f2 := ka.frozen 2; simp only [List.set_cons_zero, List.set_cons_succ, List.getElem?_cons_zero, List.getElem?_cons_succ] at ka_0 ka_1 ka_2; (try clear lt_ka); have lt_ka := ka.lt
              replace hy2 : Below y4.heap.size y4 w5 := hy2.step hx1
              clear hx1
              dsimp only
              go_wp2
              go_roundw
              case rel => exact ⟨j + 1, by omega, by go_num, ⟨_, rfl, hfin⟩, k0, ka, hy2⟩
              case measure => simp [intOf]; omega
            · have hje : j = gn := by omega
              subst hje
              have hL2 := fun (W : World) (h : Below y4.heap.size y4 W) => hLf (j : Int) W ((rM.below h).more h.size)
              have hb2 := sum_in HZS.out j
              have hTb : T = S + (xs.take j).sum := HT.out
              have HT2 : Hid (T = wSum ld (R.fl.take (k + 1)) (R.went.take (k + 1))) := by
                unfold Hid; rw [HSN.out, ← HS.out]; exact hTb
              have hTb2 : 0 ≤ T ∧ T ≤ 128000 * ((k : Int) + 1) := by omega
              rw [hDL.out] at hL2
              clear hTb HT
              go_wp2_with fail
              have cq1 : ∀ d os, (grow (redrawn wr d) os).cell? (ad.add (k * 3)) = some (.int .i64 id) := fun d os => ((below_regrown wr d os).cell (by rw [add_block]; have := hy2.size; omega)).trans f2
              have cq2 : ∀ d os, (grow (redrawn wr d) os).cell? (bd.add k) = some (.int .i64 j) := fun d os => ((below_regrown wr d os).cell (by rw [add_block]; have := hy2.size; omega)).trans g2
              refine wp_region_m [(11, only (.tuple #[.int .i64 DL.1, .bool DL.2]))] (by kernel_rfl) (by kernel_rfl) (by kernel_rfl) (by kernel_rfl) (sts_cons (sts_only _) sts_nil) (fun kq => ?_); (try dsimp only [List.append])
              (repeat (refine wpM_via (by kernel_rfl) ?_; go_big_quiet_step (fail); refine wpQuiet_nil ?_))
              (refine wpM_only _ (.tuple #[.int .i64 DL.1, .bool DL.2]) (by kernel_rfl) (by kernel_rfl) rfl (later_some _) ?_ ?_; (focus (intro x hx hk; obtain ⟨px, rfl⟩ := hx; go_simp; (first | with_reducible refine mUpon_enter ?_ | with_reducible refine mUpon_value ?_); go_at_call 28; exact (hL2 _ (hy2.step (below_regrown wr _ _))).mo)); intro K hK; go_big_quiet_op; refine hK _ ?_; clear hK K)
              (repeat (refine wpM_via (by kernel_rfl) ?_; go_big_quiet_step (fail); refine wpQuiet_nil ?_))
              refine wpM_nil ?_; intro wq hwq hfq; have hbq := below_of_class hwq; clear hwq kq; (try dsimp only [List.drop])
              clear cq1 cq2 f2 g2 hfq
              replace k0 := k0.step hbq; (try clear k0_0 k0_f0 k0_1 k0_f1 k0_2 k0_f2); have k0_0 := k0.cell 0; have k0_f0 := k0.frozen 0; have k0_1 := k0.cell 1; have k0_f1 := k0.frozen 1; have k0_2 := k0.cell 2; have k0_f2 := k0.frozen 2; simp only [List.set_cons_zero, List.set_cons_succ, List.getElem?_cons_zero, List.getElem?_cons_succ] at k0_0 k0_1 k0_2; (try clear lt_k0); have lt_k0 := k0.lt; replace ka := ka.step hbq; (try clear ka_0 ka_f0 ka_1 ka_f1 ka_2 ka_f2); have ka_0 := ka.cell 0; have ka_f0 := ka.frozen 0; have ka_1 := ka.cell 1; have ka_f1 := ka.frozen 1; have ka_2 := ka.cell 2; have ka_f2 := ka.frozen 2; simp only [List.set_cons_zero, List.set_cons_succ, List.getElem?_cons_zero, List.getElem?_cons_succ] at ka_0 ka_1 ka_2; (try clear lt_ka); have lt_ka := ka.lt
              replace hy2 : Below y4.heap.size y4 wq := hy2.step hbq
              clear hbq hL2 hLf
              cases b with
              | true =>
                go_wp2
                exact ⟨⟨k + 1, by omega, by go_num, ⟨_, rfl, HT2, hTb2.1, by push_cast; omega⟩, ⟨_, rfl, by unfold Hid; rw [HPN.out, ← HB.out]; rfl⟩, k0, ka, hy2⟩, by simp [intOf]; omega⟩
              | false =>
                go_wp2
                exact ⟨⟨k + 1, by omega, by go_num, ⟨_, rfl, HT2, hTb2.1, by push_cast; omega⟩, ⟨_, rfl, by unfold Hid; rw [HPN.out, ← HB.out]; rfl⟩, k0, ka, hy2⟩, by simp [intOf]; omega⟩
        · have hkx : k = R.went.length := by omega
          subst hkx
          have HS2 : Hid (S = wSum ld R.fl R.went) := by
            have := HS.out
            rw [List.take_of_length_le (by omega), List.take_of_length_le (by omega)] at this
            exact this
          have HB2 : Hid (b = wAny ld R.fl R.went) := by
            have := HB.out
            have hl9 : R.went.length = R.fl.length := by omega
            unfold Hid wAny
            rw [this, hl9]; rfl
          clear HS HB
          have hSt : S ≤ t := by rw [HS2.out]; exact HW.out.sum
          rcases HW.out.ends with ⟨hw0, hmd⟩ | ⟨hw1, hmd, i, z, i1, i2, hat, hdl, hgt, hle⟩
          · have hb9 : b = false := by rw [HB2.out]; exact hw0
            subst hb9
            cases hm9 : R.mid with
            | false =>
              rw [hm9] at ka
              (try clear ka_0 ka_f0 ka_1 ka_f1 ka_2 ka_f2 lt_ka)
              have ka_0 := ka.cell 0; have ka_f0 := ka.frozen 0; have ka_1 := ka.cell 1; have ka_f1 := ka.frozen 1; have ka_2 := ka.cell 2; have ka_f2 := ka.frozen 2; simp only [List.set_cons_zero, List.set_cons_succ, List.getElem?_cons_zero, List.getElem?_cons_succ] at ka_0 ka_1 ka_2; have lt_ka := ka.lt
              go_wp2_with fail
              refine (awake28_any _).mono ?_; rintro e w5 ⟨rfl, hy5⟩
              go_wp2
              go_ret
              exact ⟨rfl, hb1.step hy5⟩
            | true =>
              obtain ⟨hmid, hpos⟩ := hmd hm9
              rw [hm9] at ka
              (try clear ka_0 ka_f0 ka_1 ka_f1 ka_2 ka_f2 lt_ka)
              have ka_0 := ka.cell 0; have ka_f0 := ka.frozen 0; have ka_1 := ka.cell 1; have ka_f1 := ka.frozen 1; have ka_2 := ka.cell 2; have ka_f2 := ka.frozen 2; simp only [List.set_cons_zero, List.set_cons_succ, List.getElem?_cons_zero, List.getElem?_cons_succ] at ka_0 ka_1 ka_2; have lt_ka := ka.lt
              have hpos2 : 0 < (l.length : Int) := by omega
              have rAw := (rA.below hyr).more hyr.size
              go_wp2_with fail
              refine (law_own_any A c l at_ true _ hl1 rAw).mono ?_; rintro e w5 ⟨A9, c9, rfl, _, _, hy5⟩
              replace k0 := k0.step hy5; (try clear k0_0 k0_f0 k0_1 k0_f1 k0_2 k0_f2); have k0_0 := k0.cell 0; have k0_f0 := k0.frozen 0; have k0_1 := k0.cell 1; have k0_f1 := k0.frozen 1; have k0_2 := k0.cell 2; have k0_f2 := k0.frozen 2; simp only [List.set_cons_zero, List.set_cons_succ, List.getElem?_cons_zero, List.getElem?_cons_succ] at k0_0 k0_1 k0_2; (try clear lt_k0); have lt_k0 := k0.lt; replace ka := ka.step hy5; (try clear ka_0 ka_f0 ka_1 ka_f1 ka_2 ka_f2); have ka_0 := ka.cell 0; have ka_f0 := ka.frozen 0; have ka_1 := ka.cell 1; have ka_f1 := ka.frozen 1; have ka_2 := ka.cell 2; have ka_f2 := ka.frozen 2; simp only [List.set_cons_zero, List.set_cons_succ, List.getElem?_cons_zero, List.getElem?_cons_succ] at ka_0 ka_1 ka_2; (try clear lt_ka); have lt_ka := ka.lt
              replace hb1 : Below w.heap.size w w5 := hb1.step hy5
              have hFd : ∀ W, (Instr.field 31 (dsV A9 l.length c9 at_ true) 2).run Try.prog W = .ok (.bool true) W := fun W => by kernel_rfl
              go_wp2_with fail
              refine (awake28_any _).mono ?_; rintro e w6 ⟨rfl, hy6⟩
              go_wp2
              go_ret
              exact ⟨rfl, hb1.step hy6⟩
          · have hb9 : b = true := by rw [HB2.out]; exact hw1
            subst hb9
            rw [hmd] at ka
            (try clear ka_0 ka_f0 ka_1 ka_f1 ka_2 ka_f2 lt_ka)
            have ka_0 := ka.cell 0; have ka_f0 := ka.frozen 0; have ka_1 := ka.cell 1; have ka_f1 := ka.frozen 1; have ka_2 := ka.cell 2; have ka_f2 := ka.frozen 2; simp only [List.set_cons_zero, List.set_cons_succ, List.getElem?_cons_zero, List.getElem?_cons_succ] at ka_0 ka_1 ka_2; have lt_ka := ka.lt
            rw [hat] at ka
            (try clear ka_0 ka_f0 ka_1 ka_f1 ka_2 ka_f2 lt_ka)
            have ka_0 := ka.cell 0; have ka_f0 := ka.frozen 0; have ka_1 := ka.cell 1; have ka_f1 := ka.frozen 1; have ka_2 := ka.cell 2; have ka_f2 := ka.frozen 2; simp only [List.set_cons_zero, List.set_cons_succ, List.getElem?_cons_zero, List.getElem?_cons_succ] at ka_0 ka_1 ka_2; have lt_ka := ka.lt
            obtain ⟨ad, hAa, hadb, f1, _, f3⟩ := raw.fl i1
            obtain ⟨bd, hBa, hbdb, g1c⟩ := Rd.in rBw i2
            subst hAa
            subst hBa
            have hL2 := fun (W : World) (h : Below wr.heap.size wr W) => law_left_any M dm ld R.fl[i].id R.went[i] W hm1 HX.out ((rMw.below h).more h.size)
            rw [hdl] at hL2
            have hgt2 : t - S < z := by rw [HS2.out]; exact hgt
            have hil : (i : Int) < (R.fl.length : Int) := by omega
            have hiw : (i : Int) < (R.went.length : Int) := by omega
            clear hdl hgt
            generalize R.fl[i] = f at *
            generalize R.went[i] = g at *
            have cq1 : ∀ d os, (grow (redrawn wr d) os).cell? (ad.add (i * 3)) = some (.int .i64 f.id) := fun d os => ((below_regrown wr d os).cell (by rw [add_block]; exact hadb)).trans f1
            have cq2 : ∀ d os, (grow (redrawn wr d) os).cell? (bd.add i) = some (.int .i64 g) := fun d os => ((below_regrown wr d os).cell (by rw [add_block]; exact hbdb)).trans g1c
            go_wp2_with fail
            refine wp_region_m [(13, only (.tuple #[.int .i64 z, .bool true]))] (by kernel_rfl) (by kernel_rfl) (by kernel_rfl) (by kernel_rfl) (sts_cons (sts_only _) sts_nil) (fun kq => ?_); (try dsimp only [List.append])
            (repeat (refine wpM_via (by kernel_rfl) ?_; go_big_quiet_step (fail); refine wpQuiet_nil ?_))
            (refine wpM_only _ (.tuple #[.int .i64 z, .bool true]) (by kernel_rfl) (by kernel_rfl) rfl (later_some _) ?_ ?_; (focus (intro x hx hk; obtain ⟨px, rfl⟩ := hx; go_simp; (first | with_reducible refine mUpon_enter ?_ | with_reducible refine mUpon_value ?_); go_at_call 28; exact (hL2 _ (below_regrown wr _ _)).mo)); intro K hK; go_big_quiet_op; refine hK _ ?_; clear hK K)
            (repeat (refine wpM_via (by kernel_rfl) ?_; go_big_quiet_step (fail); refine wpQuiet_nil ?_))
            refine wpM_nil ?_; intro wq hwq hfq; have hbq := below_of_class hwq; clear hwq kq; (try dsimp only [List.drop])
            replace f3 := (hbq.cell (p := ⟨(ad.add (i * 3)).block, (ad.add (i * 3)).off + 2, none⟩) (by dsimp only; rw [add_block]; exact hadb)).trans f3
            replace k0 := k0.step hbq; (try clear k0_0 k0_f0 k0_1 k0_f1 k0_2 k0_f2); have k0_0 := k0.cell 0; have k0_f0 := k0.frozen 0; have k0_1 := k0.cell 1; have k0_f1 := k0.frozen 1; have k0_2 := k0.cell 2; have k0_f2 := k0.frozen 2; simp only [List.set_cons_zero, List.set_cons_succ, List.getElem?_cons_zero, List.getElem?_cons_succ] at k0_0 k0_1 k0_2; (try clear lt_k0); have lt_k0 := k0.lt; replace ka := ka.step hbq; (try clear ka_0 ka_f0 ka_1 ka_f1 ka_2 ka_f2); have ka_0 := ka.cell 0; have ka_f0 := ka.frozen 0; have ka_1 := ka.cell 1; have ka_f1 := ka.frozen 1; have ka_2 := ka.cell 2; have ka_f2 := ka.frozen 2; simp only [List.set_cons_zero, List.set_cons_succ, List.getElem?_cons_zero, List.getElem?_cons_succ] at ka_0 ka_1 ka_2; (try clear lt_ka); have lt_ka := ka.lt
            replace hb1 : Below w.heap.size w wq := hb1.step hbq
            clear hbq hL2 cq1 cq2 hfq f1 g1c
            go_wp2_with fail
            refine (awake28_any _).mono ?_; rintro e w6 ⟨rfl, hy6⟩
            go_wp2
            go_ret
            exact ⟨rfl, hb1.step hy6⟩
    · obtain ⟨e1, e2, e3, e4⟩ := HE.out he
      obtain ⟨rf, rat, rmid, rw', re⟩ := R
      dsimp only at e1 e2 e3 e4 he raa rBa
      subst e1 e2 e3 e4
      have hee : (re != 0) = true := by simpa using he
      clear HWK HE he HSL
      dsimp only
      go_wp2_with fail
      generalize hV : World.alloc y3 _ = z3
      have hy : Below y3.heap.size y3 z3 := by subst hV; (repeat (first | with_reducible exact Below.refl _ _ | with_reducible assumption | with_reducible refine Below.drew ?_ | with_reducible refine Below.drewN ?_ _ | with_reducible refine Below.alloc1 ?_ _ | with_reducible refine Below.setCell1 ?_ (by first | omega | (simp; done) | (simp; omega)) _ | with_reducible refine Below.step ?_ (by with_reducible assumption)))
      have ka : Bk z3 y3.heap.size 31 (dsC Aa rf.length ca rat rmid) := by subst hV; (repeat (first | with_reducible exact Bk.new' _ _ _ _ (by simp; done) | with_reducible assumption | with_reducible refine Bk.alloc ?_ _ | with_reducible refine Bk.drew ?_ | with_reducible refine Bk.drewN ?_ _ | with_reducible refine Bk.step ?_ (by with_reducible assumption) | with_reducible refine Bk.far ?_ (by first | omega | (simp; done) | (simp; omega)) _))
      clear hV
      replace k0 := k0.step hy; (try clear k0_0 k0_f0 k0_1 k0_f1 k0_2 k0_f2); have k0_0 := k0.cell 0; have k0_f0 := k0.frozen 0; have k0_1 := k0.cell 1; have k0_f1 := k0.frozen 1; have k0_2 := k0.cell 2; have k0_f2 := k0.frozen 2; simp only [List.set_cons_zero, List.set_cons_succ, List.getElem?_cons_zero, List.getElem?_cons_succ] at k0_0 k0_1 k0_2; (try clear lt_k0); have lt_k0 := k0.lt
      replace hb0 : Below w.heap.size w z3 := hb0.step hy
      replace rA := rA.step hy; replace raa := raa.step hy
      have ka_0 := ka.cell 0; have ka_f0 := ka.frozen 0; have ka_1 := ka.cell 1; have ka_f1 := ka.frozen 1; have ka_2 := ka.cell 2; have ka_f2 := ka.frozen 2; simp only [List.set_cons_zero, List.set_cons_succ, List.getElem?_cons_zero, List.getElem?_cons_succ] at ka_0 ka_1 ka_2; have lt_ka := ka.lt
      clear hy
      refine wp_region_m [(6, StAt rf.length rat rmid (flR rf)), (7, only (.bool true)), (10, only (.bool true))] (by kernel_rfl) (by kernel_rfl) (by kernel_rfl) (by kernel_rfl) (sts_cons (sts_st _ _ _ _) (sts_cons (sts_only _) (sts_cons (sts_only _) sts_nil))) (fun kq => ?_); (try dsimp only [List.append])
      (repeat (refine wpM_via (by kernel_rfl) ?_; go_big_quiet_step (fail); refine wpQuiet_nil ?_))
      (refine wpM_spec _ (StAt rf.length rat rmid (flR rf)) (by kernel_rfl) (by kernel_rfl) rfl (later_some _) ?_ ?_; (focus (intro x hx hk; obtain ⟨px, rfl⟩ := hx; go_simp; (first | with_reducible refine mUpon_enter ?_ | with_reducible refine mUpon_value ?_); go_at_call 9; exact st_m (law_own_any A c rf rat rmid _ hl1 (rA.step (below_regrown z3 _ _))))); intro v hv K hK; obtain ⟨E1, e1, rfl⟩ := hv; go_big_quiet_op; refine hK _ ?_; clear hK K)
      (repeat (refine wpM_via (by kernel_rfl) ?_; go_big_quiet_step (fail); refine wpQuiet_nil ?_))
      (refine wpM_only _ (.bool true) (by kernel_rfl) (by kernel_rfl) rfl (later_some _) ?_ ?_; (focus (intro x hx hk; obtain ⟨px, rfl⟩ := hx; go_simp; (first | with_reducible refine mUpon_enter ?_ | with_reducible refine mUpon_value ?_); go_at_call 24; exact ((drr_Same_any Aa E1 ca e1 rf rf rat rat rmid rmid _ hl (raa.step (below_regrown z3 _ _)) (st_of (hk.1 (by kernel_rfl)))).lit (by simp)).mo)); intro K hK; go_big_quiet_op; refine hK _ ?_; clear hK K)
      (repeat (refine wpM_via (by kernel_rfl) ?_; go_big_quiet_step (fail); refine wpQuiet_nil ?_))
      (refine wpM_only _ (.bool true) (by kernel_rfl) (by kernel_rfl) rfl (later_some _) ?_ ?_; (focus (intro x hx hk; obtain ⟨px, rfl⟩ := hx; go_simp; (first | with_reducible refine mUpon_enter ?_ | with_reducible refine mUpon_value ?_); go_at_call 8; exact (awake28_any _).mo)); intro K hK; go_big_quiet_op; refine hK _ ?_; clear hK K)
      (repeat (refine wpM_via (by kernel_rfl) ?_; go_big_quiet_step (fail); refine wpQuiet_nil ?_))
      refine wpM_nil ?_; intro wq hwq hfq; have hbq := below_of_class hwq; clear hwq kq; (try dsimp only [List.drop])
      go_wp2
      go_ret
      exact ⟨rfl, hb0.step hbq⟩
end Go.Proofs.Yteblbleehnkcmaa
