/- callboyref14: Level, Wait, Sources, Same. -/
import Derived.Test.YtpjepaaaanajhaaRef14b
namespace Go.Proofs.Ytpjepaaaanajhaa
open Go.RowKit Go.Sort
set_option linter.unusedSimpArgs false
set_option linter.unusedVariables false

set_option maxRecDepth 100000 in
set_option maxHeartbeats 4000000 in
theorem r14_Level_any (A : Option Addr) (c : Nat) (b r : Int) (l : List En) (s now : Int) (w : World) (hl : l.length ≤ 1000) (ha : Rd w w.heap.size A (enR l)) :
    Calls Try.prog 13 #[.agg #[.int .i64 b, .int .i64 r], .slice A l.length c, .int .i64 s, .int .i64 now] w fun e w' => e = .returned (.int .i64 (eLevel b r l s now)) ∧ Below w.heap.size w w' := by
  have hM := fun w => r14_may_any s w
  have hC := fun (W : World) (h : Below w.heap.size w W) => r14_Check_any A c b r l W hl ((ha.below h).more h.size)
  by_cases he : eCheck b r l = 0
  · cases hm : sMay s with
    | false =>
      have hr := hide (show eLevel b r l s now = 0 from by unfold eLevel; rw [if_pos hm])
      rw [hm] at hM
      rw [he] at hC
      clear he hm
      go_enter Try.func13, Try.ntmps13
      go_wp2_with fail
      generalize hV : World.alloc w _ = w1
      have hb1 : Below w.heap.size w w1 := by subst hV; (repeat (first | with_reducible exact Below.refl _ _ | with_reducible assumption | with_reducible refine Below.drew ?_ | with_reducible refine Below.drewN ?_ _ | with_reducible refine Below.alloc1 ?_ _ | with_reducible refine Below.setCell1 ?_ (by first | omega | (simp; done) | (simp; omega)) _ | with_reducible refine Below.step ?_ (by with_reducible assumption)))
      clear hV
      refine (hC _ hb1).mono ?_; rintro e x0 ⟨rfl, hx0⟩
      replace hb1 : Below w.heap.size w x0 := hb1.step hx0
      clear hx0
      go_wp2_with fail
      refine (hM _).mono ?_; rintro e x1 ⟨rfl, rfl⟩
      go_wp2
      go_ret
      exact ⟨ret_int hr.out.symm, hb1⟩
    | true =>
      have hO := fun (W : World) (h : Below w.heap.size w W) => r14_of_any A c b r l s now W hl ((ha.below h).more h.size)
      have hR := hide (show eLevel b r l s now = bLevel b r (eOf b l s now).1 (eOf b l s now).2 now from by unfold eLevel; rw [if_neg (by rw [hm]; simp), if_neg (by simp [he])])
      have hL := fun t a W => r13_Level_any b r t a now W
      rw [he] at hC
      rw [hm] at hM
      clear he hm
      unfold ofV at hO
      generalize eOf b l s now = E at *
      obtain ⟨t, a⟩ := E
      unfold stV at hO
      dsimp only at hR hO
      generalize lowB l s = k at *
      generalize hasB l s = q at *
      go_enter Try.func13, Try.ntmps13
      go_wp2_with fail
      generalize hV : World.alloc w _ = w1
      have hb1 : Below w.heap.size w w1 := by subst hV; (repeat (first | with_reducible exact Below.refl _ _ | with_reducible assumption | with_reducible refine Below.drew ?_ | with_reducible refine Below.drewN ?_ _ | with_reducible refine Below.alloc1 ?_ _ | with_reducible refine Below.setCell1 ?_ (by first | omega | (simp; done) | (simp; omega)) _ | with_reducible refine Below.step ?_ (by with_reducible assumption)))
      have k0 : Bk w1 w.heap.size 23 [.int .i64 b, .int .i64 r] := by subst hV; (repeat (first | with_reducible exact Bk.new' _ _ _ _ (by simp; done) | with_reducible assumption | with_reducible refine Bk.alloc ?_ _ | with_reducible refine Bk.drew ?_ | with_reducible refine Bk.drewN ?_ _ | with_reducible refine Bk.step ?_ (by with_reducible assumption) | with_reducible refine Bk.far ?_ (by first | omega | (simp; done) | (simp; omega)) _))
      clear hV
      refine (hC _ hb1).mono ?_; rintro e x0 ⟨rfl, hx0⟩
      replace k0 := k0.step hx0; (try clear k0_0 k0_f0 k0_1 k0_f1); have k0_0 := k0.cell 0; have k0_f0 := k0.frozen 0; have k0_1 := k0.cell 1; have k0_f1 := k0.frozen 1; simp only [List.set_cons_zero, List.set_cons_succ, List.getElem?_cons_zero, List.getElem?_cons_succ] at k0_0 k0_1; (try clear lt_k0); have lt_k0 := k0.lt
      replace hb1 : Below w.heap.size w x0 := hb1.step hx0
      clear hx0 hC
      go_wp2_with fail
      refine (hM _).mono ?_; rintro e x1 ⟨rfl, rfl⟩
      go_wp2_with fail
      refine (hO _ hb1).mono ?_; rintro e x1 ⟨rfl, hx1⟩
      replace k0 := k0.step hx1; (try clear k0_0 k0_f0 k0_1 k0_f1); have k0_0 := k0.cell 0; have k0_f0 := k0.frozen 0; have k0_1 := k0.cell 1; have k0_f1 := k0.frozen 1; simp only [List.set_cons_zero, List.set_cons_succ, List.getElem?_cons_zero, List.getElem?_cons_succ] at k0_0 k0_1; (try clear lt_k0); have lt_k0 := k0.lt
      replace hb1 : Below w.heap.size w x1 := hb1.step hx1
      clear hx1 hM hO
      go_wp2_with fail
      refine (hL t a _).mono ?_; rintro e x2 ⟨rfl, hx2⟩
      go_wp2
      go_ret
      exact ⟨ret_int hR.out.symm, hb1.step (by (repeat (first | with_reducible exact Below.refl _ _ | with_reducible assumption | with_reducible refine Below.drew ?_ | with_reducible refine Below.drewN ?_ _ | with_reducible refine Below.alloc1 ?_ _ | with_reducible refine Below.setCell1 ?_ (by first | omega | (simp; done) | (simp; omega)) _ | with_reducible refine Below.step ?_ (by with_reducible assumption))))⟩
  · have hr := hide (show eLevel b r l s now = 0 from by unfold eLevel; by_cases h : sMay s = false; rw [if_pos h]; rw [if_neg h, if_pos he])
    have hne : (eCheck b r l != 0) = true := by simpa using he
    generalize eCheck b r l = q at *
    clear he
    go_enter Try.func13, Try.ntmps13
    go_wp2_with fail
    generalize hV : World.alloc w _ = w1
    have hb1 : Below w.heap.size w w1 := by subst hV; (repeat (first | with_reducible exact Below.refl _ _ | with_reducible assumption | with_reducible refine Below.drew ?_ | with_reducible refine Below.drewN ?_ _ | with_reducible refine Below.alloc1 ?_ _ | with_reducible refine Below.setCell1 ?_ (by first | omega | (simp; done) | (simp; omega)) _ | with_reducible refine Below.step ?_ (by with_reducible assumption)))
    clear hV
    refine (hC _ hb1).mono ?_; rintro e x0 ⟨rfl, hx0⟩
    replace hb1 : Below w.heap.size w x0 := hb1.step hx0
    go_wp2
    go_ret
    exact ⟨ret_int hr.out.symm, hb1⟩
set_option maxRecDepth 100000 in
set_option maxHeartbeats 4000000 in
theorem r14_Wait_any (A : Option Addr) (c : Nat) (b r : Int) (l : List En) (s now : Int) (w : World) (hl : l.length ≤ 1000) (ha : Rd w w.heap.size A (enR l)) :
    Calls Try.prog 15 #[.agg #[.int .i64 b, .int .i64 r], .slice A l.length c, .int .i64 s, .int .i64 now] w fun e w' => e = .returned (.int .i64 (eWait b r l s now)) ∧ Below w.heap.size w w' := by
  have hM := fun w => r14_may_any s w
  have hC := fun (W : World) (h : Below w.heap.size w W) => r14_Check_any A c b r l W hl ((ha.below h).more h.size)
  by_cases he : eCheck b r l = 0
  · cases hm : sMay s with
    | false =>
      have hr := hide (show eWait b r l s now = -1 from by unfold eWait; rw [if_pos hm])
      rw [hm] at hM
      rw [he] at hC
      clear he hm
      go_enter Try.func15, Try.ntmps15
      go_wp2_with fail
      generalize hV : World.alloc w _ = w1
      have hb1 : Below w.heap.size w w1 := by subst hV; (repeat (first | with_reducible exact Below.refl _ _ | with_reducible assumption | with_reducible refine Below.drew ?_ | with_reducible refine Below.drewN ?_ _ | with_reducible refine Below.alloc1 ?_ _ | with_reducible refine Below.setCell1 ?_ (by first | omega | (simp; done) | (simp; omega)) _ | with_reducible refine Below.step ?_ (by with_reducible assumption)))
      clear hV
      refine (hC _ hb1).mono ?_; rintro e x0 ⟨rfl, hx0⟩
      replace hb1 : Below w.heap.size w x0 := hb1.step hx0
      clear hx0
      go_wp2_with fail
      refine (hM _).mono ?_; rintro e x1 ⟨rfl, rfl⟩
      go_wp2
      go_ret
      exact ⟨ret_int hr.out.symm, hb1⟩
    | true =>
      have hO := fun (W : World) (h : Below w.heap.size w W) => r14_of_any A c b r l s now W hl ((ha.below h).more h.size)
      have hR := hide (show eWait b r l s now = bWait b r (eOf b l s now).1 (eOf b l s now).2 now 1 from by unfold eWait; rw [if_neg (by rw [hm]; simp), if_neg (by simp [he])])
      have hL := fun t a W => r13_Wait_any b r t a now 1 (by omega) W
      rw [he] at hC
      rw [hm] at hM
      clear he hm
      unfold ofV at hO
      generalize eOf b l s now = E at *
      obtain ⟨t, a⟩ := E
      unfold stV at hO
      dsimp only at hR hO
      generalize lowB l s = k at *
      generalize hasB l s = q at *
      go_enter Try.func15, Try.ntmps15
      go_wp2_with fail
      generalize hV : World.alloc w _ = w1
      have hb1 : Below w.heap.size w w1 := by subst hV; (repeat (first | with_reducible exact Below.refl _ _ | with_reducible assumption | with_reducible refine Below.drew ?_ | with_reducible refine Below.drewN ?_ _ | with_reducible refine Below.alloc1 ?_ _ | with_reducible refine Below.setCell1 ?_ (by first | omega | (simp; done) | (simp; omega)) _ | with_reducible refine Below.step ?_ (by with_reducible assumption)))
      have k0 : Bk w1 w.heap.size 23 [.int .i64 b, .int .i64 r] := by subst hV; (repeat (first | with_reducible exact Bk.new' _ _ _ _ (by simp; done) | with_reducible assumption | with_reducible refine Bk.alloc ?_ _ | with_reducible refine Bk.drew ?_ | with_reducible refine Bk.drewN ?_ _ | with_reducible refine Bk.step ?_ (by with_reducible assumption) | with_reducible refine Bk.far ?_ (by first | omega | (simp; done) | (simp; omega)) _))
      clear hV
      refine (hC _ hb1).mono ?_; rintro e x0 ⟨rfl, hx0⟩
      replace k0 := k0.step hx0; (try clear k0_0 k0_f0 k0_1 k0_f1); have k0_0 := k0.cell 0; have k0_f0 := k0.frozen 0; have k0_1 := k0.cell 1; have k0_f1 := k0.frozen 1; simp only [List.set_cons_zero, List.set_cons_succ, List.getElem?_cons_zero, List.getElem?_cons_succ] at k0_0 k0_1; (try clear lt_k0); have lt_k0 := k0.lt
      replace hb1 : Below w.heap.size w x0 := hb1.step hx0
      clear hx0 hC
      go_wp2_with fail
      refine (hM _).mono ?_; rintro e x1 ⟨rfl, rfl⟩
      go_wp2_with fail
      refine (hO _ hb1).mono ?_; rintro e x1 ⟨rfl, hx1⟩
      replace k0 := k0.step hx1; (try clear k0_0 k0_f0 k0_1 k0_f1); have k0_0 := k0.cell 0; have k0_f0 := k0.frozen 0; have k0_1 := k0.cell 1; have k0_f1 := k0.frozen 1; simp only [List.set_cons_zero, List.set_cons_succ, List.getElem?_cons_zero, List.getElem?_cons_succ] at k0_0 k0_1; (try clear lt_k0); have lt_k0 := k0.lt
      replace hb1 : Below w.heap.size w x1 := hb1.step hx1
      clear hx1 hM hO
      go_wp2_with fail
      refine (hL t a _).mono ?_; rintro e x2 ⟨rfl, hx2⟩
      go_wp2
      go_ret
      exact ⟨ret_int hR.out.symm, hb1.step (by (repeat (first | with_reducible exact Below.refl _ _ | with_reducible assumption | with_reducible refine Below.drew ?_ | with_reducible refine Below.drewN ?_ _ | with_reducible refine Below.alloc1 ?_ _ | with_reducible refine Below.setCell1 ?_ (by first | omega | (simp; done) | (simp; omega)) _ | with_reducible refine Below.step ?_ (by with_reducible assumption))))⟩
  · have hr := hide (show eWait b r l s now = -1 from by unfold eWait; by_cases h : sMay s = false; rw [if_pos h]; rw [if_neg h, if_pos he])
    have hne : (eCheck b r l != 0) = true := by simpa using he
    generalize eCheck b r l = q at *
    clear he
    go_enter Try.func15, Try.ntmps15
    go_wp2_with fail
    generalize hV : World.alloc w _ = w1
    have hb1 : Below w.heap.size w w1 := by subst hV; (repeat (first | with_reducible exact Below.refl _ _ | with_reducible assumption | with_reducible refine Below.drew ?_ | with_reducible refine Below.drewN ?_ _ | with_reducible refine Below.alloc1 ?_ _ | with_reducible refine Below.setCell1 ?_ (by first | omega | (simp; done) | (simp; omega)) _ | with_reducible refine Below.step ?_ (by with_reducible assumption)))
    clear hV
    refine (hC _ hb1).mono ?_; rintro e x0 ⟨rfl, hx0⟩
    replace hb1 : Below w.heap.size w x0 := hb1.step hx0
    go_wp2
    go_ret
    exact ⟨ret_int hr.out.symm, hb1⟩
set_option maxRecDepth 100000 in
set_option maxHeartbeats 4000000 in
theorem r14_Sources_any (A : Option Addr) (c : Nat) (l : List En) (w : World) (hl : l.length ≤ 1000) (ha : Rd w w.heap.size A (enR l)) :
    Calls Try.prog 22 #[.slice A l.length c] w fun e w' => ∃ B d, e = .returned (.slice B l.length d) ∧ Rd w' w'.heap.size B (ints (eSrcs l)) ∧ Below w.heap.size w w' := by
  obtain ⟨iT, hi, hz0, hz1, hz2⟩ := info_parts int_info14
  go_enter Try.func22, Try.ntmps22
  go_wp2_with fail
  go_loopw [3, 4] (fun s i wr => ∃ k : Nat, k ≤ l.length ∧ i = .int .i64 k ∧ (∃ W cW, s = .slice W k cW ∧ wr.ownsRow w.heap.size 3 1 (.slice W k cW) k (ints (eSrcs (l.take k)))) ∧ w.heap.size ≤ wr.heap.size ∧ Below w.heap.size w wr) (fun _ i _ => l.length - (intOf i).toNat)
  case atStart => exact ⟨0, Nat.zero_le _, rfl, ⟨none, 0, rfl, ⟨by simp [eSrcs], .inl ⟨rfl, rfl⟩⟩⟩, Nat.le_refl _, by (repeat (first | with_reducible exact Below.refl _ _ | with_reducible assumption | with_reducible refine Below.drew ?_ | with_reducible refine Below.drewN ?_ _ | with_reducible refine Below.alloc1 ?_ _ | with_reducible refine Below.setCell1 ?_ (by first | omega | (simp; done) | (simp; omega)) _ | with_reducible refine Below.step ?_ (by with_reducible assumption)))⟩
  case round =>
    obtain ⟨k, hk, rfl, ⟨W, cW, rfl, own⟩, hbw, hb⟩ := hrel
    by_cases hlt : k < l.length
    · obtain ⟨ad, rfl, hadb, c1, c2, c3⟩ := (ha.below hb).en hlt
      have HSN := hide (show ints (eSrcs (l.take (k + 1))) = ints (eSrcs (l.take k)) ++ [.int .i64 l[k].s] from by rw [take_snocL l k hlt]; simp only [eSrcs, ints, List.map_append, List.map_cons, List.map_nil])
      generalize l[k] = x at *
      go_wp2_with (at_builtin; refine wpList_app2 rfl (.tmp 11) (.tmp 17) 45 rfl w.heap.size 3 iT _ 1 8 Try.underlying45 hi hz0 hz1 hz2 rfl (by omega) W k cW (ints (eSrcs (l.take k))) rfl (own.alloc _) ⟨wr.heap.size, 0, none⟩ 1 1 [.int .i64 x.s] rfl rfl (news_at (w := wr) (cs := [.int .i64 x.s]) (e := 3)) (by simp [Value.oneCell']) (by unfold maxLen; omega) (by omega) (by simp; omega) (by omega) ?_; intro g2 cap w7 own7 hb7 hgr7)
      have hs7 := hb7.size
      simp at hs7
      replace hb : Below w.heap.size w w7 := (hb.alloc1 _).trans hb7
      rw [← HSN.out] at own7
      clear hi hz0 hz1 hz2 iT own hb7 hgr7 c1 c2 c3
      go_wp2
      go_roundw
      case rel => exact ⟨k + 1, by omega, by go_num, ⟨_, cap, rfl, own7⟩, by omega, hb⟩
      case measure => simp [intOf]; omega
    · have hkl : k = l.length := by omega
      subst hkl
      rw [List.take_length] at own
      go_wp2
      go_ret
      exact ⟨W, cW, rfl, own_rd own, hb⟩
theorem ren_neq (x y : En) (b : Bool) (hb : b = decide (x = y)) (w' : World) : (binOp .neq 67 (enV x) (enV y)).run Try.prog w' = .ok (.bool (!b)) w' := by
  subst hb
  obtain ⟨x0, x1, x2⟩ := x
  obtain ⟨y0, y1, y2⟩ := y
  have hS : Try.prog.underlying 67 = some (.struct (Try.prog.fieldsOf 67)) := by kernel_rfl
  have hp : Try.prog.stoodInHeld 67 = false := by kernel_rfl
  rw [run_neq_struct, show (10000 : Nat) = 9999 + 1 from rfl, run_equalIn_agg w' 9999 67 _ _ hS hp]
  simp only [Program.fieldsOf, Try.underlying67]
  go_simp
  by_cases h0 : x0 = y0 <;> by_cases h1 : x1 = y1 <;> by_cases h2 : x2 = y2 <;> simp [h0, h1, h2]
theorem r14_Same_any (A B : Option Addr) (c d : Nat) (l m : List En) (w : World) (hl : l.length ≤ 1000) (ha : Rd w w.heap.size A (enR l)) (hb : Rd w w.heap.size B (enR m)) :
    Calls Try.prog 10 #[.slice A l.length c, .slice B m.length d] w fun e w' => e = .returned (.bool (decide (l = m))) ∧ ∃ n, w.drewN n = w' := by
  by_cases hlen : l.length = m.length
  · have hne : ((l.length : Int) != (m.length : Int)) = false := by rw [bne_eq_false_iff_eq]; omega
    have hlen' : l.length ≤ m.length ∧ m.length ≤ l.length := by omega
    have HL := hide hlen
    clear hlen
    go_enter Try.func10, Try.ntmps10
    go_wp2
    go_loopw [5] (fun i wr => ∃ k : Nat, k ≤ l.length ∧ i = .int .i64 k ∧ l.take k = m.take k ∧ ∃ n, w.drewN n = wr) (fun i _ => l.length - (intOf i).toNat)
    case atStart => exact ⟨0, Nat.zero_le _, rfl, rfl, 0, rfl⟩
    case round =>
      obtain ⟨k, hk, rfl, ht, n, rfl⟩ := hrel
      have HT := hide ht
      clear ht
      by_cases hlt : k < l.length
      · obtain ⟨ad, rfl, _, a0, a1, a2⟩ := ha.en hlt
        obtain ⟨bd, rfl, _, b0, b1, b2⟩ := hb.en (k := k) (by omega)
        have h2 : k < m.length := by omega
        have hE := ren_neq l[k] m[k]
        by_cases he : l[k] = m[k]
        · have hE1 := hE true (by simp [he])
          have HE := hide he
          clear he hE
          go_wp2_with fail
          go_quiet (fail)
          go_wp2
          go_roundw
          case rel => exact ⟨k + 1, by omega, by go_num, take_eq_succ l m k hlt h2 HT.out HE.out, _, rfl⟩
          case measure => simp [intOf]; omega
        · have hE1 := hE false (by simp [he])
          clear hE
          go_wp2_with fail
          go_quiet (fail)
          go_wp2
          go_ret
          exact ⟨ret_bool (by rw [eq_comm, decide_eq_false_iff_not]; intro e; subst e; exact he rfl), qt_trans ⟨_, rfl⟩ ⟨_, rfl⟩⟩
      · go_wp2
        go_ret
        refine ⟨ret_bool ?_, _, rfl⟩
        have h := HT.out
        rw [List.take_of_length_le (by omega), List.take_of_length_le (by omega)] at h
        rw [eq_comm, decide_eq_true_eq]
        exact h
  · have hne : ((l.length : Int) != (m.length : Int)) = true := by rw [bne_iff_ne]; omega
    go_enter Try.func10, Try.ntmps10
    go_wp2
    go_ret
    exact ⟨ret_bool (by rw [eq_comm, decide_eq_false_iff_not]; intro e; exact hlen (by rw [e])), 0, rfl⟩
end Go.Proofs.Ytpjepaaaanajhaa
