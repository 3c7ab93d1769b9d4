/- Contracts of the reference of chapter 16, further: Run. -/
import Derived.Test.YtbajakifkidccaaRef16b
import Derived.Test.YtbajakifkidccaaLev4
namespace Go.Proofs.Ytbajakifkidccaa
open Go.RowKit Go.Sort
set_option linter.unusedSimpArgs false
set_option linter.unusedVariables false

theorem r16_Run_no {up dn : Nat → Int} {hold : Int} (h : vCheck up dn hold ≠ 0) (A : Option Addr) (c : Nat) (l : List Int) (hl : l.length ≤ 1000000) (w : World) :
    Calls Try.prog 20 #[lcV up dn hold, .slice A l.length c] w fun e w' => e = .returned (.slice none 0 0) ∧ Below w.heap.size w w' := by
  have hv := vCheck_cases up dn hold
  have hv' : vCheck up dn hold = 8 ∨ vCheck up dn hold = 10 := by omega
  clear h hv
  rcases hv' with h1 | h1
  all_goals
    have H1 := hide h1
    clear h1
    go_enter Try.func20, Try.ntmps20
    go_wp2_with fail
    generalize hV : World.alloc w _ = w0
    have hb0 : Below w.heap.size w w0 := by subst hV; (repeat (first | with_reducible exact Below.refl _ _ | with_reducible assumption | with_reducible refine Below.drew ?_ | with_reducible refine Below.drewN ?_ _ | with_reducible refine Below.alloc1 ?_ _ | with_reducible refine Below.setCell1 ?_ (by first | omega | (simp; done) | (simp; omega)) _ | with_reducible refine Below.step ?_ (by with_reducible assumption)))
    have q0 : Bk w0 w.heap.size 24 (lcC up dn hold) := by subst hV; (repeat (first | with_reducible exact Bk.new' _ _ _ _ (by simp; done) | with_reducible assumption | with_reducible refine Bk.alloc ?_ _ | with_reducible refine Bk.drew ?_ | with_reducible refine Bk.drewN ?_ _ | with_reducible refine Bk.step ?_ (by with_reducible assumption) | with_reducible refine Bk.far ?_ (by first | omega | (simp; done) | (simp; omega)) _))
    clear hV
    refine (r16_New_any _).mono ?_; rintro e w2 ⟨rfl, hb2⟩
    replace q0 := q0.step hb2
    replace hb0 : Below w.heap.size w w2 := by (repeat (first | with_reducible exact Below.refl _ _ | with_reducible assumption | with_reducible refine Below.drew ?_ | with_reducible refine Below.drewN ?_ _ | with_reducible refine Below.alloc1 ?_ _ | with_reducible refine Below.setCell1 ?_ (by first | omega | (simp; done) | (simp; omega)) _ | with_reducible refine Below.step ?_ (by with_reducible assumption)))
    clear hb2
    have lq := q0.lt
    have q0_0 := q0.cell 0; have q0_f0 := q0.frozen 0; have q0_1 := q0.cell 1; have q0_f1 := q0.frozen 1; have q0_2 := q0.cell 2; have q0_f2 := q0.frozen 2; have q0_3 := q0.cell 3; have q0_f3 := q0.frozen 3; have q0_4 := q0.cell 4; have q0_f4 := q0.frozen 4; have q0_5 := q0.cell 5; have q0_f5 := q0.frozen 5; have q0_6 := q0.cell 6; have q0_f6 := q0.frozen 6; simp only [List.set_cons_zero, List.set_cons_succ, List.getElem?_cons_zero, List.getElem?_cons_succ] at q0_0 q0_1 q0_2 q0_3 q0_4 q0_5 q0_6
    go_wp2_with fail
    refine wp_loop_rounds 1 ?_; rw [rounds_succ]
    by_cases h0 : 0 < l.length
    · go_wp2_with fail
      refine (r16_Check_is H1.out _).mono ?_; rintro e w3 ⟨rfl, hb3⟩
      go_wp2_with fail
      go_ret
      exact ⟨rfl, by (repeat (first | with_reducible exact Below.refl _ _ | with_reducible assumption | with_reducible refine Below.drew ?_ | with_reducible refine Below.drewN ?_ _ | with_reducible refine Below.alloc1 ?_ _ | with_reducible refine Below.setCell1 ?_ (by first | omega | (simp; done) | (simp; omega)) _ | with_reducible refine Below.step ?_ (by with_reducible assumption)))⟩
    · go_wp2_with fail
      go_ret
      exact ⟨rfl, by (repeat (first | with_reducible exact Below.refl _ _ | with_reducible assumption | with_reducible refine Below.drew ?_ | with_reducible refine Below.drewN ?_ _ | with_reducible refine Below.alloc1 ?_ _ | with_reducible refine Below.setCell1 ?_ (by first | omega | (simp; done) | (simp; omega)) _ | with_reducible refine Below.step ?_ (by with_reducible assumption)))⟩
set_option maxHeartbeats 4000000 in
theorem r16_Run_yes {up dn : Nat → Int} {hold : Int} (h0 : vCheck up dn hold = 0) (A : Option Addr) (c : Nat) (l : List Int) (hl : l.length ≤ 1000000) (w : World) (hA : Rd w w.heap.size A (l.map (Value.int .i64))) :
    Calls Try.prog 20 #[lcV up dn hold, .slice A l.length c] w fun e w' => ∃ B d, e = .returned (.slice B l.length d) ∧ Rd w' w'.heap.size B ((vRun up dn hold l).2.map (Value.int .i64)) ∧ Below w.heap.size w w' := by
  obtain ⟨i0, hi, hz0, hz1, hz2⟩ := info_parts vint_info
  have H0 := hide h0
  clear h0
  go_enter Try.func20, Try.ntmps20
  go_wp2_with fail
  generalize hV : World.alloc w _ = w0
  have hb0 : Below w.heap.size w w0 := by subst hV; (repeat (first | with_reducible exact Below.refl _ _ | with_reducible assumption | with_reducible refine Below.drew ?_ | with_reducible refine Below.drewN ?_ _ | with_reducible refine Below.alloc1 ?_ _ | with_reducible refine Below.setCell1 ?_ (by first | omega | (simp; done) | (simp; omega)) _ | with_reducible refine Below.step ?_ (by with_reducible assumption)))
  have q0 : Bk w0 w.heap.size 24 (lcC up dn hold) := by subst hV; (repeat (first | with_reducible exact Bk.new' _ _ _ _ (by simp; done) | with_reducible assumption | with_reducible refine Bk.alloc ?_ _ | with_reducible refine Bk.drew ?_ | with_reducible refine Bk.drewN ?_ _ | with_reducible refine Bk.step ?_ (by with_reducible assumption) | with_reducible refine Bk.far ?_ (by first | omega | (simp; done) | (simp; omega)) _))
  clear hV
  refine (r16_New_any _).mono ?_; rintro e w2 ⟨rfl, hb2⟩
  replace q0 := q0.step hb2
  replace hb0 : Below w.heap.size w w2 := by (repeat (first | with_reducible exact Below.refl _ _ | with_reducible assumption | with_reducible refine Below.drew ?_ | with_reducible refine Below.drewN ?_ _ | with_reducible refine Below.alloc1 ?_ _ | with_reducible refine Below.setCell1 ?_ (by first | omega | (simp; done) | (simp; omega)) _ | with_reducible refine Below.step ?_ (by with_reducible assumption)))
  clear hb2
  have hs2 : w.heap.size < w2.heap.size := q0.lt
  go_wp2_with fail
  generalize hV : World.alloc w2 _ = w3
  have q1 : Bk w3 w2.heap.size 26 (lsC 0 0 (-1)) := by subst hV; (repeat (first | with_reducible exact Bk.new' _ _ _ _ (by simp; done) | with_reducible assumption | with_reducible refine Bk.alloc ?_ _ | with_reducible refine Bk.drew ?_ | with_reducible refine Bk.drewN ?_ _ | with_reducible refine Bk.step ?_ (by with_reducible assumption) | with_reducible refine Bk.far ?_ (by first | omega | (simp; done) | (simp; omega)) _))
  replace q0 : Bk w3 w.heap.size 24 (lcC up dn hold) := by subst hV; (repeat (first | with_reducible exact Bk.new' _ _ _ _ (by simp; done) | with_reducible assumption | with_reducible refine Bk.alloc ?_ _ | with_reducible refine Bk.drew ?_ | with_reducible refine Bk.drewN ?_ _ | with_reducible refine Bk.step ?_ (by with_reducible assumption) | with_reducible refine Bk.far ?_ (by first | omega | (simp; done) | (simp; omega)) _))
  replace hb0 : Below w.heap.size w w3 := by subst hV; (repeat (first | with_reducible exact Below.refl _ _ | with_reducible assumption | with_reducible refine Below.drew ?_ | with_reducible refine Below.drewN ?_ _ | with_reducible refine Below.alloc1 ?_ _ | with_reducible refine Below.setCell1 ?_ (by first | omega | (simp; done) | (simp; omega)) _ | with_reducible refine Below.step ?_ (by with_reducible assumption)))
  have hs3 : w2.heap.size + 1 ≤ w3.heap.size := by subst hV; simp
  generalize w2.heap.size = S at *
  clear hV
  go_loopw [5, 7] (fun o i wr => ∃ (k : Nat) (x : (Int × Int × Int) × List Int), k ≤ l.length ∧ i = .int .i64 k ∧ Hid (vRun up dn hold (l.take k) = x) ∧ x.2.length = k ∧ (∃ A' c', o = .slice A' k c' ∧ wr.ownsRow (S + 1) 3 1 (.slice A' k c') k (x.2.map (Value.int .i64))) ∧
      Bk wr w.heap.size 24 (lcC up dn hold) ∧ Bk wr S 26 (lsC x.1.1 x.1.2.1 x.1.2.2) ∧ Below w.heap.size w wr ∧ S + 1 ≤ wr.heap.size) (fun _ i _ => l.length - (intOf i).toNat)
  case atStart => exact ⟨0, ((0, 0, -1), []), Nat.zero_le _, rfl, rfl, rfl, ⟨none, 0, rfl, World.ownsRow_nil _ _ _ _⟩, q0, q1, hb0, hs3⟩
  case round =>
    obtain ⟨k, x, hk, rfl, HX, hxl, ⟨A', c', rfl, hown⟩, j0, j1, hbr, hszr⟩ := hrel
    clear q0 q1 hb0 hs3
    by_cases hlt : k < l.length
    · obtain ⟨ad, rfl, hadb, hca⟩ := hA.at_ (k := k) (by simpa using hlt)
      have hc1 : wr.cell? (ad.add k) = some (.int .i64 l[k]) := by rw [hbr.cell (by rw [add_block]; exact hadb), hca]; simp
      have HN := hide (vRun_snoc up dn hold (l.take k) l[k])
      have HT := hide (take_snocL l k hlt)
      clear hca
      generalize l[k] = ld at *
      have j0_0 := j0.cell 0; have j0_f0 := j0.frozen 0; have j0_1 := j0.cell 1; have j0_f1 := j0.frozen 1; have j0_2 := j0.cell 2; have j0_f2 := j0.frozen 2; have j0_3 := j0.cell 3; have j0_f3 := j0.frozen 3; have j0_4 := j0.cell 4; have j0_f4 := j0.frozen 4; have j0_5 := j0.cell 5; have j0_f5 := j0.frozen 5; have j0_6 := j0.cell 6; have j0_f6 := j0.frozen 6; simp only [List.set_cons_zero, List.set_cons_succ, List.getElem?_cons_zero, List.getElem?_cons_succ] at j0_0 j0_1 j0_2 j0_3 j0_4 j0_5 j0_6
      have lj := And.intro j0.lt j1.lt
      go_wp2_with fail
      refine (r16_Check_is H0.out _).mono ?_; rintro e w6 ⟨rfl, hb6⟩
      have hadj : (ad.add k).block < wr.heap.size := by rw [add_block]; have := hbr.size; omega
      have hc2 : w6.cell? (ad.add k) = some (.int .i64 ld) := (hb6.cell hadj).trans hc1
      have h0 := j0.step hb6
      have h1 := j1.step hb6
      have own6 := own_below hown hb6 (Nat.le_refl _)
      have hbw : Below w.heap.size w w6 := by (repeat (first | with_reducible exact Below.refl _ _ | with_reducible assumption | with_reducible refine Below.drew ?_ | with_reducible refine Below.drewN ?_ _ | with_reducible refine Below.alloc1 ?_ _ | with_reducible refine Below.setCell1 ?_ (by first | omega | (simp; done) | (simp; omega)) _ | with_reducible refine Below.step ?_ (by with_reducible assumption)))
      have hs6 := hb6.size
      clear j0_0 j0_1 j0_2 j0_3 j0_4 j0_5 j0_6 j0_f0 j0_f1 j0_f2 j0_f3 j0_f4 j0_f5 j0_f6 j0 j1 hc1 hown hbr hb6
      have h0_0 := h0.cell 0; have h0_f0 := h0.frozen 0; have h0_1 := h0.cell 1; have h0_f1 := h0.frozen 1; have h0_2 := h0.cell 2; have h0_f2 := h0.frozen 2; have h0_3 := h0.cell 3; have h0_f3 := h0.frozen 3; have h0_4 := h0.cell 4; have h0_f4 := h0.frozen 4; have h0_5 := h0.cell 5; have h0_f5 := h0.frozen 5; have h0_6 := h0.cell 6; have h0_f6 := h0.frozen 6; simp only [List.set_cons_zero, List.set_cons_succ, List.getElem?_cons_zero, List.getElem?_cons_succ] at h0_0 h0_1 h0_2 h0_3 h0_4 h0_5 h0_6
      have h1_0 := h1.cell 0; have h1_f0 := h1.frozen 0; have h1_1 := h1.cell 1; have h1_f1 := h1.frozen 1; have h1_2 := h1.cell 2; have h1_f2 := h1.frozen 2; simp only [List.set_cons_zero, List.set_cons_succ, List.getElem?_cons_zero, List.getElem?_cons_succ] at h1_0 h1_1 h1_2
      have lj6 := And.intro h0.lt h1.lt
      have hcg : ∀ (d : Nat) (os : Array Obj), (Go.Sort.grow (redrawn w6 d) os).cell? (ad.add k) = some (.int .i64 ld) := fun d os => ((below_regrown w6 d os).cell (by omega)).trans hc2
      have sk : IntKind.i64.wrap ((k : Int) + 1) = (k : Int) + 1 := IntWalk.i64_in _ (by omega)
      obtain ⟨y, hy⟩ : ∃ y, vStep up dn hold x.1.1 x.1.2.1 x.1.2.2 ld (k + 1) = y := ⟨_, rfl⟩
      have HY := hide hy
      clear hy
      go_wp2_with fail
      refine wp_region_mt 9 [(8, only (lsV y.1 y.2.1 y.2.2))] (by kernel_rfl) (by kernel_rfl) (by kernel_rfl) (by kernel_rfl) (sts_cons (sts_only _) sts_nil) (fun kq => ?_); (try dsimp only [List.append, List.take])
      (repeat (refine wpM_via (by kernel_rfl) ?_; go_big_quiet_step (fail); refine wpQuiet_nil ?_))
      (refine wpM_only _ (lsV y.1 y.2.1 y.2.2) (by kernel_rfl) (by kernel_rfl) rfl (later_some _) ?_ ?_; (focus (intro x hx hk; obtain ⟨px, rfl⟩ := hx; go_simp; (first | with_reducible refine mUpon_enter ?_ | with_reducible refine mUpon_value ?_); go_at_call 8; exact (r16_Step_is HY.out _).mo)); intro K hK; go_big_quiet_op; refine hK _ ?_; clear hK K)
      refine wpM_nil ?_; intro wq hwq hfq; have hbq := below_of_class hwq; clear hwq kq; (try dsimp only [List.drop])
      clear h0_0 h0_1 h0_2 h0_3 h0_4 h0_5 h0_6 h0_f0 h0_f1 h0_f2 h0_f3 h0_f4 h0_f5 h0_f6 h1_0 h1_1 h1_2 h1_f0 h1_f1 h1_f2 hcg hfq sk
      have p0 := h0.step hbq
      have p1 := h1.step hbq
      have own4 := own_below own6 hbq (Nat.le_refl _)
      have hb5 : Below w.heap.size w wq := by (repeat (first | with_reducible exact Below.refl _ _ | with_reducible assumption | with_reducible refine Below.drew ?_ | with_reducible refine Below.drewN ?_ _ | with_reducible refine Below.alloc1 ?_ _ | with_reducible refine Below.setCell1 ?_ (by first | omega | (simp; done) | (simp; omega)) _ | with_reducible refine Below.step ?_ (by with_reducible assumption)))
      have hs4 := hbq.size
      clear h0 h1 own6 hbw hbq hc2
      have p1_0 := p1.cell 0; have p1_f0 := p1.frozen 0; have p1_1 := p1.cell 1; have p1_f1 := p1.frozen 1; have p1_2 := p1.cell 2; have p1_f2 := p1.frozen 2; simp only [List.set_cons_zero, List.set_cons_succ, List.getElem?_cons_zero, List.getElem?_cons_succ] at p1_0 p1_1 p1_2
      go_wp2_with (at_builtin; refine wpList_app2 rfl (.tmp 29) (.tmp 32) 43 rfl (S + 1) 3 i0 _ 1 8 Try.underlying43 hi hz0 hz1 hz2 rfl ?c1 A' k c' (x.2.map (Value.int .i64)) rfl ?hown ⟨wq.heap.size, 0, none⟩ 1 1 [.int .i64 y.1] rfl rfl ?hn ?c2 ?c3 ?c4 ?c5 ?c6 ?_; rotate_right; intro g cap w5 hown5 hb6 hg6)
      case c1 => omega
      case hown => exact (own_far (own_far (own_far own4 (by dsimp only; omega) _) (by dsimp only; omega) _) (by dsimp only; omega) _).alloc _
      case hn => exact news_one (by simp [World.setCell])
      case c2 => intro u hu; simp at hu; subst hu; rfl
      case c3 => unfold maxLen; omega
      case c4 => omega
      case c5 => simp [World.setCell]; omega
      case c6 => omega
      have r0 : Bk w5 w.heap.size 24 (lcC up dn hold) := Bk.below ((((p0.far (by dsimp only; omega) _).far (by dsimp only; omega) _).far (by dsimp only; omega) _).alloc _) hb6 (by omega)
      have r1 : Bk w5 S 26 (lsC y.1 y.2.1 y.2.2) := Bk.below ((((p1.set_ 0 _).set_ 1 _).set_ 2 _).alloc _) hb6 (by omega)
      have hb7 : Below w.heap.size w w5 := by
        have h1 : Below w.heap.size w _ := (((hb5.setCell (p := ⟨S, 0, none⟩) (by dsimp only; omega) (.int .i64 y.1)).setCell (p := ⟨S, 1, none⟩) (by dsimp only; omega) (.int .i64 y.2.1)).setCell (p := ⟨S, 2, none⟩) (by dsimp only; omega) (.int .i64 y.2.2)).alloc1 (.cells #[.int .i64 y.1] 3)
        exact h1.trans (hb6.mono (by omega))
      have hs7 := hb6.size
      simp [World.setCell] at hs7
      have HXN : Hid (vRun up dn hold (l.take (k + 1)) = (y, x.2 ++ [y.1])) := by
        show _ = _
        rw [HT.out, HN.out, HX.out, hxl, HY.out]
      clear hb6 hg6 own4 p0 p1 hb5 HN HX HT HY
      go_roundw
      case rel =>
        refine ⟨k + 1, (y, x.2 ++ [y.1]), by omega, by go_num, HXN, by simp [hxl], ⟨_, _, rfl, ?_⟩, r0, r1, hb7, by omega⟩
        simpa using hown5
      case measure => simp [intOf]; omega
    · obtain rfl : k = l.length := by omega
      go_wp2_with fail
      go_ret
      have h := HX.out
      rw [List.take_of_length_le (Nat.le_refl _)] at h
      rw [← h] at hown
      exact ⟨A', c', rfl, own_rd hown, hbr⟩
end Go.Proofs.Ytbajakifkidccaa
