/- Package callboyref03: Same, New. -/
import Derived.Test.YtnmpighdkdffbaaRef03g
namespace Go.Proofs.Ytnmpighdkdffbaa
open Go.RowKit Go.Sort
set_option linter.unusedSimpArgs false
set_option linter.unusedVariables false

theorem rcell_neq (x y : Cl) (b : Bool) (hb : b = decide (x = y)) (w' : World) : (binOp .neq 64 (clV x) (clV y)).run Try.prog w' = .ok (.bool (!b)) w' := by
  subst hb
  obtain ⟨xg, xl, xv⟩ := x
  obtain ⟨yg, yl, yv⟩ := y
  have hS : Try.prog.underlying 64 = some (.struct (Try.prog.fieldsOf 64)) := by kernel_rfl
  have hp : Try.prog.stoodInHeld 64 = false := by kernel_rfl
  rw [run_neq_struct, show (10000 : Nat) = 9999 + 1 from rfl, run_equalIn_agg w' 9999 64 _ _ hS hp]
  simp only [Program.fieldsOf, Try.underlying64]
  go_simp
  by_cases h1 : xg = yg <;> by_cases h2 : xl = yl <;> by_cases h3 : xv = yv <;> simp [h1, h2, h3]
set_option maxRecDepth 100000 in
set_option maxHeartbeats 8000000 in
theorem rSame_any (A B A' B' : Option Addr) (c d c' d' : Nat) (l l' : List Cl) (f f' : List Int) (w : World) (hl : l.length ≤ 1000) (hf : f.length ≤ 1000) (ha : Rd w w.heap.size A (cls l)) (hb : Rd w w.heap.size B (ints f)) (ha' : Rd w w.heap.size A' (cls l')) (hb' : Rd w w.heap.size B' (ints f')) :
    Calls Try.prog 16 #[stV A l.length c B f.length d, stV A' l'.length c' B' f'.length d'] w fun e w' => e = .returned (.bool (decide (l = l') && decide (f = f'))) ∧ Below w.heap.size w w' := by
  by_cases hlen : l.length = l'.length
  · have hne : ((l.length : Int) != (l'.length : Int)) = false := by rw [bne_eq_false_iff_eq]; omega
    have hlen' : l.length ≤ l'.length ∧ l'.length ≤ l.length := by omega
    have HL := hide hlen
    clear hlen
    have hI := fun (W : World) (h : Below w.heap.size w W) => SameInts_any B B' d d' f f' W (by unfold maxLen; omega) ((hb.below h).more h.size) ((hb'.below h).more h.size)
    go_enter Try.func16, Try.ntmps16
    go_wp2_with fail
    generalize hV : World.alloc (World.alloc w _) _ = w1
    have hb1 : Below w.heap.size w w1 := by subst hV; (repeat (first | with_reducible exact Below.refl _ _ | with_reducible assumption | with_reducible refine Below.drew ?_ | with_reducible refine Below.drewN ?_ _ | with_reducible refine Below.alloc1 ?_ _ | with_reducible refine Below.setCell1 ?_ (by first | omega | (simp; done) | (simp; omega)) _ | with_reducible refine Below.step ?_ (by with_reducible assumption)))
    have k0 : Bk w1 w.heap.size 25 (stC A l.length c B f.length d) := by subst hV; (repeat (first | with_reducible exact Bk.new' _ _ _ _ (by simp; done) | with_reducible assumption | with_reducible refine Bk.alloc ?_ _ | with_reducible refine Bk.drew ?_ | with_reducible refine Bk.drewN ?_ _ | with_reducible refine Bk.step ?_ (by with_reducible assumption) | with_reducible refine Bk.far ?_ (by first | omega | (simp; done) | (simp; omega)) _))
    have k1 : Bk w1 (w.heap.size + 1) 25 (stC A' l'.length c' B' f'.length d') := by subst hV; (repeat (first | with_reducible exact Bk.new' _ _ _ _ (by simp; done) | with_reducible assumption | with_reducible refine Bk.alloc ?_ _ | with_reducible refine Bk.drew ?_ | with_reducible refine Bk.drewN ?_ _ | with_reducible refine Bk.step ?_ (by with_reducible assumption) | with_reducible refine Bk.far ?_ (by first | omega | (simp; done) | (simp; omega)) _))
    clear hV
    go_loopw [5] (fun i wr => ∃ k : Nat, k ≤ l.length ∧ i = .int .i64 k ∧ l.take k = l'.take k ∧ Bk wr w.heap.size 25 (stC A l.length c B f.length d) ∧ Bk wr (w.heap.size + 1) 25 (stC A' l'.length c' B' f'.length d') ∧ Below w.heap.size w wr) (fun i _ => l.length - (intOf i).toNat)
    case atStart => exact ⟨0, Nat.zero_le _, rfl, rfl, k0, k1, hb1⟩
    case round =>
      clear k0 k1 hb1
      obtain ⟨k, hk, rfl, ht, j0, j1, hbr⟩ := hrel
      have HT := hide ht
      clear ht
      have j0_0 := j0.cell 0; have j0_f0 := j0.frozen 0; have j0_1 := j0.cell 1; have j0_f1 := j0.frozen 1; simp only [List.set_cons_zero, List.set_cons_succ, List.getElem?_cons_zero, List.getElem?_cons_succ] at j0_0 j0_1; have lt_j0 := j0.lt; have j1_0 := j1.cell 0; have j1_f0 := j1.frozen 0; have j1_1 := j1.cell 1; have j1_f1 := j1.frozen 1; simp only [List.set_cons_zero, List.set_cons_succ, List.getElem?_cons_zero, List.getElem?_cons_succ] at j1_0 j1_1; have lt_j1 := j1.lt
      by_cases hlt : k < l.length
      · obtain ⟨ad, rfl, hadb, a1, a2, a3⟩ := (ha.below hbr).cl hlt
        obtain ⟨bd, rfl, hbdb, b1, b2, b3⟩ := (ha'.below hbr).cl (k := k) (by omega)
        have h2 : k < l'.length := by omega
        have i1 : (k : Int) < (l.length : Int) := by omega
        have i2 : (k : Int) < (l'.length : Int) := by omega
        have hE := rcell_neq l[k] l'[k]
        by_cases he : l[k] = l'[k]
        · have hE1 := hE true (by simp [he])
          have HE := hide he
          clear he hE
          go_wp2_with fail
          go_quiet (fail)
          go_wp2
          go_roundw
          case rel => exact ⟨k + 1, by omega, by go_num, take_eq_succ l l' k hlt h2 HT.out HE.out, j0.drewN _, j1.drewN _, hbr.drewN _⟩
          case measure => simp [intOf]; omega
        · have hE1 := hE false (by simp [he])
          clear hE
          have hfin : decide (l = l') = false := by rw [decide_eq_false_iff_not]; intro e; subst e; exact he rfl
          have hfin2 : (decide (l = l') && decide (f = f')) = false := by rw [hfin]; rfl
          clear he hfin
          go_wp2_with fail
          go_quiet (fail)
          go_wp2
          go_ret
          exact ⟨ret_bool hfin2.symm, hbr.drewN _⟩
      · have hll : l = l' := by
          have h := HT.out
          rwa [List.take_of_length_le (by omega), List.take_of_length_le (by omega)] at h
        have hfin2 : (decide (l = l') && decide (f = f')) = decide (f = f') := by rw [decide_eq_true hll]; rfl
        clear hll
        go_wp2_with fail
        refine (hI _ hbr).mono ?_; rintro e x0 ⟨rfl, n, rfl⟩
        go_wp2
        go_ret
        exact ⟨ret_bool hfin2.symm, hbr.drewN _⟩
  · have hne : ((l.length : Int) != (l'.length : Int)) = true := by rw [bne_iff_ne]; omega
    have hfin : decide (l = l') = false := by rw [decide_eq_false_iff_not]; intro e; exact hlen (by rw [e])
    have hfin2 : (decide (l = l') && decide (f = f')) = false := by rw [hfin]; rfl
    go_enter Try.func16, Try.ntmps16
    go_wp2
    go_ret
    exact ⟨ret_bool hfin2.symm, by (repeat (first | with_reducible exact Below.refl _ _ | with_reducible assumption | with_reducible refine Below.drew ?_ | with_reducible refine Below.drewN ?_ _ | with_reducible refine Below.alloc1 ?_ _ | with_reducible refine Below.setCell1 ?_ (by first | omega | (simp; done) | (simp; omega)) _ | with_reducible refine Below.step ?_ (by with_reducible assumption)))⟩

theorem rNew_no (n : Int) (w : World) (h : n < 1 ∨ 64 < n) : Calls Try.prog 21 #[.int .i64 n] w fun e w' => ∃ V', e = .returned (.tuple #[V', .int .i64 8]) ∧ StAt w' V' [] [] ∧ Below w.heap.size w w' := by
  go_enter Try.func21, Try.ntmps21
  go_wp2_with fail
  all_goals
    generalize hV : World.alloc w _ = w1
    have hb1 : Below w.heap.size w w1 := by subst hV; (repeat (first | with_reducible exact Below.refl _ _ | with_reducible assumption | with_reducible refine Below.drew ?_ | with_reducible refine Below.drewN ?_ _ | with_reducible refine Below.alloc1 ?_ _ | with_reducible refine Below.setCell1 ?_ (by first | omega | (simp; done) | (simp; omega)) _ | with_reducible refine Below.step ?_ (by with_reducible assumption)))
    have k0 : Bk w1 w.heap.size 25 (stC none 0 0 none 0 0) := by subst hV; (repeat (first | with_reducible exact Bk.new' _ _ _ _ (by simp; done) | with_reducible assumption | with_reducible refine Bk.alloc ?_ _ | with_reducible refine Bk.drew ?_ | with_reducible refine Bk.drewN ?_ _ | with_reducible refine Bk.step ?_ (by with_reducible assumption) | with_reducible refine Bk.far ?_ (by first | omega | (simp; done) | (simp; omega)) _))
    clear hV
    have k0_0 := k0.cell 0; have k0_f0 := k0.frozen 0; have k0_1 := k0.cell 1; have k0_f1 := k0.frozen 1; simp only [List.set_cons_zero, List.set_cons_succ, List.getElem?_cons_zero, List.getElem?_cons_succ] at k0_0 k0_1; have lt_k0 := k0.lt
    exact bodyPost_ret (v := .tuple #[stV none 0 0 none 0 0, .int .i64 8]) (by simp only [results, Try.results21]; go_simp) rfl ⟨_, rfl, ⟨none, 0, none, 0, rfl, Nat.le_refl _, Rd.nil, Rd.nil⟩, hb1⟩
theorem own_kept {w w' : World} {base : Nat} {e : TypeId} {size : Nat} {v u : Value} {n : Nat} {xs : List Value} (h : w.ownsRow base e size v n xs) (hg : w.grownBy w' u.ownBlock) (hne : ∀ j, u.ownBlock = some j → v.ownBlock ≠ some j) : w'.ownsRow base e size v n xs := by
  refine ⟨h.1, ?_⟩
  rcases h.2 with h2 | ⟨g, cap, cur, rfl, hb, hh, r⟩
  · exact .inl h2
  · refine .inr ⟨g, cap, cur, rfl, hb, ?_, r⟩
    rw [hg.block g (Array.getElem?_eq_some_iff.1 hh).1 (fun e => hne g e.symm rfl)]
    exact hh
theorem own_own {w : World} {b1 b2 : Nat} {e1 e2 : TypeId} {s1 s2 : Nat} {v1 v2 : Value} {n1 n2 : Nat} {xs ys : List Value} (h : w.ownsRow b1 e1 s1 v1 n1 xs) (k : w.ownsRow b2 e2 s2 v2 n2 ys) (hne : e1 ≠ e2) : ∀ j, v1.ownBlock = some j → v2.ownBlock ≠ some j := by
  intro j hj hk
  rcases h.2 with ⟨rfl, _⟩ | ⟨g, cap, cur, rfl, _, hh, _⟩
  · cases hj
  · rcases k.2 with ⟨rfl, _⟩ | ⟨g', cap', cur', rfl, _, hh', _⟩
    · cases hk
    · cases hj
      cases hk
      rw [hh] at hh'
      injection hh' with hh'
      injection hh' with _ hh'
      exact hne hh'
theorem newL_snoc (k : Nat) : newL (k + 1) = newL k ++ [⟨0, false, 0⟩] := by simp [newL, List.replicate_succ']
set_option maxRecDepth 100000 in
set_option maxHeartbeats 8000000 in
theorem rNew_yes (n : Nat) (w : World) (h1 : 1 ≤ n) (h : n ≤ 64) : Calls Try.prog 21 #[.int .i64 n] w fun e w' => ∃ V', e = .returned (.tuple #[V', .int .i64 0]) ∧ StAt w' V' (newL n) (downs n n) ∧ Below w.heap.size w w' := by
  obtain ⟨iT, hi, hz0, hz1, hz2⟩ := info_parts pint_info
  obtain ⟨iC, hiC, hC0, hC1, hC2⟩ := info_parts rcell_info
  have g1 : (1 : Int) ≤ n := by omega
  have g2 : (n : Int) ≤ 64 := by omega
  go_enter Try.func21, Try.ntmps21
  go_wp2_with fail
  generalize hV : World.alloc (World.alloc w _) _ = w1
  have hb1 : Below w.heap.size w w1 := by subst hV; (repeat (first | with_reducible exact Below.refl _ _ | with_reducible assumption | with_reducible refine Below.drew ?_ | with_reducible refine Below.drewN ?_ _ | with_reducible refine Below.alloc1 ?_ _ | with_reducible refine Below.setCell1 ?_ (by first | omega | (simp; done) | (simp; omega)) _ | with_reducible refine Below.step ?_ (by with_reducible assumption)))
  have k0 : Bk w1 w.heap.size 25 (stC none 0 0 none 0 0) := by subst hV; exact (Bk.new w _ _).alloc _
  have k1 : Bk w1 (w.heap.size + 1) 25 (stC none 0 0 none 0 0) := by subst hV; (repeat (first | with_reducible exact Bk.new' _ _ _ _ (by simp; done) | with_reducible assumption | with_reducible refine Bk.alloc ?_ _ | with_reducible refine Bk.drew ?_ | with_reducible refine Bk.drewN ?_ _ | with_reducible refine Bk.step ?_ (by with_reducible assumption) | with_reducible refine Bk.far ?_ (by first | omega | (simp; done) | (simp; omega)) _))
  clear hV
  go_loopw [5] (fun i wr => ∃ (k : Nat) (A' : Option Addr) (c' : Nat) (B' : Option Addr) (d' : Nat), k ≤ n ∧ i = .int .i64 k ∧ wr.ownsRow (w.heap.size + 2) 64 3 (.slice A' k c') k (cls (newL k)) ∧ wr.ownsRow (w.heap.size + 2) 3 1 (.slice B' k d') k (ints (downs n k)) ∧ Bk wr w.heap.size 25 (stC none 0 0 none 0 0) ∧ Bk wr (w.heap.size + 1) 25 (stC A' k c' B' k d') ∧ Below w.heap.size w wr) (fun i _ => n - (intOf i).toNat)
  case atStart => exact ⟨0, none, 0, none, 0, Nat.zero_le _, rfl, ⟨rfl, .inl ⟨rfl, rfl⟩⟩, ⟨rfl, .inl ⟨rfl, rfl⟩⟩, k0, k1, hb1⟩
  case round =>
    obtain ⟨k, A', c', B', d', hk, rfl, oA, oB, j0, j1, hbr⟩ := hrel
    clear k0 k1 hb1
    by_cases hlt : k < n
    · have j0_0 := j0.cell 0; have j0_f0 := j0.frozen 0; have j0_1 := j0.cell 1; have j0_f1 := j0.frozen 1; simp only [List.set_cons_zero, List.set_cons_succ, List.getElem?_cons_zero, List.getElem?_cons_succ] at j0_0 j0_1; have lt_j0 := j0.lt; have j1_0 := j1.cell 0; have j1_f0 := j1.frozen 0; have j1_1 := j1.cell 1; have j1_f1 := j1.frozen 1; simp only [List.set_cons_zero, List.set_cons_succ, List.getElem?_cons_zero, List.getElem?_cons_succ] at j1_0 j1_1; have lt_j1 := j1.lt
      have S1 : IntKind.i64.wrap ((n : Int) - 1) = (n : Int) - 1 := IntWalk.i64_in _ (by omega)
      have S2 : IntKind.i64.wrap ((n : Int) - 1 - k) = (n : Int) - 1 - k := IntWalk.i64_in _ (by omega)
      have hA0 := own_ne oA j0 (by decide)
      have hA1 := own_ne oA j1 (by decide)
      go_upto_region 8 with (at_builtin; refine wpList_app2 rfl (.tmp 19) (.tmp 21) 22 rfl (w.heap.size + 2) 64 iC _ 3 24 Try.underlying22 hiC hC0 hC1 hC2 rfl (by omega) A' k c' (cls (newL k)) rfl (oA.alloc _) ⟨wr.heap.size, 0, none⟩ 1 1 [.int .i64 0, .bool false, .int .i64 0] rfl rfl (news_at (cs := [.int .i64 0, .bool false, .int .i64 0])) (by simp [Value.oneCell']) (by unfold maxLen; omega) (by omega) (by simp; omega) (by omega) ?_; intro g cap w7 own7 hb7 hgr7; (have k7 := (j1.alloc (.cells #[.int .i64 0, .bool false, .int .i64 0] 64)).kept hgr7 hA1); have k7_0 := k7.cell 0; have k7_f0 := k7.frozen 0; have k7_1 := k7.cell 1; have k7_f1 := k7.frozen 1; simp only [List.set_cons_zero, List.set_cons_succ, List.getElem?_cons_zero, List.getElem?_cons_succ] at k7_0 k7_1; have lt7 := k7.lt)
      have hB7 := (own_below oB ((Below.refl _ wr).alloc1 (.cells #[.int .i64 0, .bool false, .int .i64 0] 64)) (Nat.le_refl _))
      replace oB := own_kept hB7 hgr7 (own_own oA oB (by decide))
      have q0 := (j0.alloc (.cells #[.int .i64 0, .bool false, .int .i64 0] 64)).kept hgr7 hA0
      have hb8 : Below w.heap.size w w7 := (hbr.alloc1 (.cells #[.int .i64 0, .bool false, .int .i64 0] 64)).trans (hb7.mono (by omega))
      have hsz7 := hb8.size
      (try clear j0_0 j0_f0 j0_1 j0_f1 lt_j0) ; (try clear j1_0 j1_f0 j1_1 j1_f1 lt_j1) ; (try clear k7_0 k7_f0 k7_1 k7_f1 lt_k7)
      generalize hV : World.setCell w7 _ _ = w8
      replace hb8 : Below w.heap.size w w8 := by subst hV; exact hb8.setCell (by dsimp only; omega) _
      replace q0 : Bk w8 w.heap.size 25 (stC none 0 0 none 0 0) := by subst hV; exact q0.far (by dsimp only; omega) _
      replace k7 : Bk w8 (w.heap.size + 1) 25 (stC (some ⟨g, 0, none⟩) (k + 1) cap B' k d') := by subst hV; exact k7.set_ 0 _
      replace own7 : w8.ownsRow (w.heap.size + 2) 64 3 (.slice (some ⟨g, 0, none⟩) (k + 1) cap) (k + 1) (cls (newL (k + 1))) := by
        subst hV
        rw [show cls (newL (k + 1)) = cls (newL k) ++ [.int .i64 0, .bool false, .int .i64 0] by rw [newL_snoc]; simp [cls]]
        exact own_far own7 (by dsimp only; omega) _
      replace oB : w8.ownsRow (w.heap.size + 2) 3 1 (.slice B' k d') k (ints (downs n k)) := by subst hV; exact own_far oB (by dsimp only; omega) _
      have lt8 : w.heap.size + 1 < w8.heap.size := k7.lt
      clear hV hB7 hgr7 hb7 hbr oA j0 j1 hA0 hA1
      have hB0 := own_ne oB q0 (by decide)
      have hB1 := own_ne oB k7 (by decide)
      have q0_0 := q0.cell 0; have q0_f0 := q0.frozen 0; have q0_1 := q0.cell 1; have q0_f1 := q0.frozen 1; simp only [List.set_cons_zero, List.set_cons_succ, List.getElem?_cons_zero, List.getElem?_cons_succ] at q0_0 q0_1; have lt_q0 := q0.lt; have k7_0 := k7.cell 0; have k7_f0 := k7.frozen 0; have k7_1 := k7.cell 1; have k7_f1 := k7.frozen 1; simp only [List.set_cons_zero, List.set_cons_succ, List.getElem?_cons_zero, List.getElem?_cons_succ] at k7_0 k7_1; have lt_k7 := k7.lt
      go_wp2_with (at_builtin; refine wpList_app2 rfl (.tmp 25) (.tmp 30) 23 rfl (w.heap.size + 2) 3 iT _ 1 8 Try.underlying23 hi hz0 hz1 hz2 rfl (by omega) B' k d' (ints (downs n k)) rfl (oB.alloc _) ⟨w8.heap.size, 0, none⟩ 1 1 [.int .i64 ((n : Int) - 1 - k)] rfl rfl (news_at (cs := [_])) (by simp [Value.oneCell']) (by unfold maxLen; omega) (by omega) (by simp; omega) (by omega) ?_; intro g5 cap5 w9 own9 hb9 hgr9; (have k9 := (k7.alloc (.cells #[.int .i64 ((n : Int) - 1 - k)] 3)).kept hgr9 hB1); have k9_0 := k9.cell 0; have k9_f0 := k9.frozen 0; have k9_1 := k9.cell 1; have k9_f1 := k9.frozen 1; simp only [List.set_cons_zero, List.set_cons_succ, List.getElem?_cons_zero, List.getElem?_cons_succ] at k9_0 k9_1; have lt9 := k9.lt)
      have q9 := (q0.alloc (.cells #[.int .i64 ((n : Int) - 1 - k)] 3)).kept hgr9 hB0
      have oA9 := own_kept (own7.alloc (.cells #[.int .i64 ((n : Int) - 1 - k)] 3)) hgr9 (own_own oB own7 (by decide))
      have hb10 : Below w.heap.size w w9 := (hb8.alloc1 (.cells #[.int .i64 ((n : Int) - 1 - k)] 3)).trans (hb9.mono (by omega))
      go_roundw
      case rel =>
        refine ⟨k + 1, some ⟨g, 0, none⟩, cap, some ⟨g5, 0, none⟩, cap5, by omega, by go_num, own_far oA9 (by dsimp only; omega) _, ?_, q9.far (by dsimp only; omega) _, k9.set_ 1 _, hb10.setCell (by dsimp only; omega) _⟩
        rw [show ints (downs n (k + 1)) = ints (downs n k) ++ [.int .i64 ((n : Int) - 1 - k)] by rw [downs_snoc]; simp [ints]]
        exact own_far own9 (by dsimp only; omega) _
      case measure => simp [intOf]; omega
    · have hkn : k = n := by omega
      subst hkn
      have j0_0 := j0.cell 0; have j0_f0 := j0.frozen 0; have j0_1 := j0.cell 1; have j0_f1 := j0.frozen 1; simp only [List.set_cons_zero, List.set_cons_succ, List.getElem?_cons_zero, List.getElem?_cons_succ] at j0_0 j0_1; have lt_j0 := j0.lt; have j1_0 := j1.cell 0; have j1_f0 := j1.frozen 0; have j1_1 := j1.cell 1; have j1_f1 := j1.frozen 1; simp only [List.set_cons_zero, List.set_cons_succ, List.getElem?_cons_zero, List.getElem?_cons_succ] at j1_0 j1_1; have lt_j1 := j1.lt
      go_wp2_with fail
      (try clear j0_0 j0_f0 j0_1 j0_f1 lt_j0) ; (try clear j1_0 j1_f0 j1_1 j1_f1 lt_j1)
      generalize hV : World.setCell (World.setCell wr _ _) _ _ = w4
      have hb4 : Below w.heap.size w w4 := by subst hV; exact (hbr.setCell (by dsimp only; omega) _).setCell (by dsimp only; omega) _
      replace j0 : Bk w4 w.heap.size 25 (stC A' k c' B' k d') := by subst hV; exact (j0.set_ 0 _).set_ 1 _
      replace oA : w4.ownsRow (w.heap.size + 2) 64 3 (.slice A' k c') k (cls (newL k)) := by subst hV; refine own_far (own_far oA ?_ _) ?_ _ <;> (dsimp only; omega)
      replace oB : w4.ownsRow (w.heap.size + 2) 3 1 (.slice B' k d') k (ints (downs k k)) := by subst hV; refine own_far (own_far oB ?_ _) ?_ _ <;> (dsimp only; omega)
      clear hV
      have j0_0 := j0.cell 0; have j0_f0 := j0.frozen 0; have j0_1 := j0.cell 1; have j0_f1 := j0.frozen 1; simp only [List.set_cons_zero, List.set_cons_succ, List.getElem?_cons_zero, List.getElem?_cons_succ] at j0_0 j0_1; have lt_j0 := j0.lt
      have hcap7 : k ≤ d' := by
        rcases oB.2 with ⟨e, h0⟩ | ⟨g, cap, cur, e, _, _, h0, _⟩
        · omega
        · injection e with _ _ e; omega
      exact bodyPost_ret (v := .tuple #[stV A' k c' B' k d', .int .i64 0]) (by simp only [results, Try.results21]; go_simp) rfl ⟨_, rfl, ⟨A', c', B', d', by rw [List.length_replicate, downs_len], by rw [downs_len]; omega, own_rd oA, own_rd oB⟩, hb4⟩
end Go.Proofs.Ytnmpighdkdffbaa
