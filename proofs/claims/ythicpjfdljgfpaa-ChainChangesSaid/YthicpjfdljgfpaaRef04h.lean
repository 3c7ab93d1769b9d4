/- Package callboyref04: Same, New. -/
import Derived.Test.YthicpjfdljgfpaaRef04g
namespace Go.Proofs.Ythicpjfdljgfpaa
open Go.RowKit Go.Sort
set_option linter.unusedSimpArgs false
set_option linter.unusedVariables false

set_option maxRecDepth 100000 in
set_option maxHeartbeats 8000000 in
theorem r04_Same_at (V V' : Value) (x y : Ch) (w : World) (h1 : x.ns.length ≤ 1000) (h2 : x.hs.length ≤ 1000) (h3 : x.ts.length ≤ 1000) (h : CsAt w V x) (h' : CsAt w V' y) : Calls Try.prog 16 #[V, V'] w fun e w' => e = .returned (.bool (cSame x y)) ∧ Below w.heap.size w w' := by
  obtain ⟨A, B, C, a, b, c, rfl, rA, rB, rC⟩ := h
  obtain ⟨A', B', C', a', b', c', rfl, sA, sB, sC⟩ := h'
  have HR := hide (show cSame x y = (decide (x.ns = y.ns) && decide (x.hs = y.hs) && decide (x.ts = y.ts)) from rfl)
  have hH := fun (W : World) r r' => SameInts_any B B' b b' x.hs y.hs W (by unfold maxLen; omega) r r'
  have hT := fun (W : World) r r' => SameInts_any C C' c c' x.ts y.ts W (by unfold maxLen; omega) r r'
  generalize cSame x y = R at *
  go_enter Try.func16, Try.ntmps16
  go_upto_region 1 with fail
  generalize hV : World.alloc (World.alloc w _) _ = w1
  have hb1 : Below w.heap.size w w1 := by subst hV; (repeat (first | with_reducible exact Below.refl _ _ | with_reducible assumption | with_reducible refine Below.drew ?_ | with_reducible refine Below.drewN ?_ _ | with_reducible refine Below.alloc1 ?_ _ | with_reducible refine Below.setCell1 ?_ (by first | omega | (simp; done) | (simp; omega)) _ | with_reducible refine Below.step ?_ (by with_reducible assumption)))
  have k0 : Bk w1 w.heap.size 25 (csC A B C a b c x.ns.length x.hs.length x.ts.length) := by subst hV; exact (Bk.new' w 25 (csC A B C a b c x.ns.length x.hs.length x.ts.length) _ rfl).alloc _
  have k1 : Bk w1 (w.heap.size + 1) 25 (csC A' B' C' a' b' c' y.ns.length y.hs.length y.ts.length) := by subst hV; exact Bk.new' (World.alloc w _) 25 (csC A' B' C' a' b' c' y.ns.length y.hs.length y.ts.length) _ (by simp)
  clear hV
  replace rA := rA.step hb1; replace rB := rB.step hb1; replace rC := rC.step hb1
  replace sA := sA.step hb1; replace sB := sB.step hb1; replace sC := sC.step hb1
  by_cases hlen : x.ns.length = y.ns.length
  case neg =>
    have hne : ((x.ns.length : Int) != (y.ns.length : Int)) = true := by rw [bne_iff_ne]; omega
    have hR := hide (show R = false by
      have e : decide (x.ns = y.ns) = false := by rw [decide_eq_false_iff_not]; intro e; exact hlen (by rw [e])
      rw [HR.out, e]; rfl)
    clear HR hlen
    have k0_0 := k0.cell 0; have k0_f0 := k0.frozen 0; have k0_1 := k0.cell 1; have k0_f1 := k0.frozen 1; have k0_2 := k0.cell 2; have k0_f2 := k0.frozen 2; simp only [List.set_cons_zero, List.set_cons_succ, List.getElem?_cons_zero, List.getElem?_cons_succ] at k0_0 k0_1 k0_2; have lt_k0 := k0.lt; have k1_0 := k1.cell 0; have k1_f0 := k1.frozen 0; have k1_1 := k1.cell 1; have k1_f1 := k1.frozen 1; have k1_2 := k1.cell 2; have k1_f2 := k1.frozen 2; simp only [List.set_cons_zero, List.set_cons_succ, List.getElem?_cons_zero, List.getElem?_cons_succ] at k1_0 k1_1 k1_2; have lt_k1 := k1.lt
    go_wp2
    go_ret
    exact ⟨ret_bool hR.out.symm, hb1⟩
  have hne : ((x.ns.length : Int) != (y.ns.length : Int)) = false := by rw [bne_eq_false_iff_eq]; omega
  have hlen' : x.ns.length ≤ y.ns.length ∧ y.ns.length ≤ x.ns.length := by omega
  clear hlen
  have k0_0 := k0.cell 0; have k0_f0 := k0.frozen 0; have k0_1 := k0.cell 1; have k0_f1 := k0.frozen 1; have k0_2 := k0.cell 2; have k0_f2 := k0.frozen 2; simp only [List.set_cons_zero, List.set_cons_succ, List.getElem?_cons_zero, List.getElem?_cons_succ] at k0_0 k0_1 k0_2; have lt_k0 := k0.lt; have k1_0 := k1.cell 0; have k1_f0 := k1.frozen 0; have k1_1 := k1.cell 1; have k1_f1 := k1.frozen 1; have k1_2 := k1.cell 2; have k1_f2 := k1.frozen 2; simp only [List.set_cons_zero, List.set_cons_succ, List.getElem?_cons_zero, List.getElem?_cons_succ] at k1_0 k1_1 k1_2; have lt_k1 := k1.lt
  go_upto_region 4 with fail
  (try clear k0_0 k0_f0 k0_1 k0_f1 k0_2 k0_f2 lt_k0) ; (try clear k1_0 k1_f0 k1_1 k1_f1 k1_2 k1_f2 lt_k1)
  go_loopw [5] (fun v wr => ∃ k : Nat, v = .int .i64 k ∧ k ≤ x.ns.length ∧ Hid (x.ns.take k = y.ns.take k) ∧ Below w1.heap.size w1 wr) (fun v _ => match v with | .int _ k => x.ns.length - k.toNat | _ => 0)
  case atStart => exact ⟨0, rfl, by omega, hide rfl, Below.refl _ _⟩
  case round =>
    obtain ⟨k, rfl, hk, HT, hb⟩ := hrel
    have q0 := k0.step hb
    have q1 := k1.step hb
    have lq0 := q0.lt
    have lq1 := q1.lt
    have q0_0 := q0.cell 0; have q0_f0 := q0.frozen 0; have q0_1 := q0.cell 1; have q0_f1 := q0.frozen 1; have q0_2 := q0.cell 2; have q0_f2 := q0.frozen 2; simp only [List.set_cons_zero, List.set_cons_succ, List.getElem?_cons_zero, List.getElem?_cons_succ] at q0_0 q0_1 q0_2; have lt_q0 := q0.lt; have q1_0 := q1.cell 0; have q1_f0 := q1.frozen 0; have q1_1 := q1.cell 1; have q1_f1 := q1.frozen 1; have q1_2 := q1.cell 2; have q1_f2 := q1.frozen 2; simp only [List.set_cons_zero, List.set_cons_succ, List.getElem?_cons_zero, List.getElem?_cons_succ] at q1_0 q1_1 q1_2; have lt_q1 := q1.lt
    by_cases hke : k = x.ns.length
    · have HN := hide (show x.ns = y.ns by
        have h9 := HT.out
        rw [List.take_of_length_le (by omega), List.take_of_length_le (by omega)] at h9
        exact h9)
      subst hke
      clear HT
      by_cases hhs : x.hs = y.hs
      · have e1 : decide (x.hs = y.hs) = true := by simp [hhs]
        have HH1 := hide e1
        rw [e1] at hH
        clear e1 hhs
        by_cases hts : x.ts = y.ts
        · have e1 : decide (x.ts = y.ts) = true := by simp [hts]
          have hR := hide (show R = true by rw [HR.out, HH1.out, e1]; simp [HN.out])
          rw [e1] at hT
          clear e1 hts HN HH1 HR
          go_wp2_with fail
          refine (hH _ (rB.step hb) (sB.step hb)).mono ?_; rintro e w5 ⟨rfl, hq⟩
          have hy := qt_below hq
          replace q0 := q0.step hy; (try clear q0_0 q0_f0 q0_1 q0_f1 q0_2 q0_f2); have q0_0 := q0.cell 0; have q0_f0 := q0.frozen 0; have q0_1 := q0.cell 1; have q0_f1 := q0.frozen 1; have q0_2 := q0.cell 2; have q0_f2 := q0.frozen 2; simp only [List.set_cons_zero, List.set_cons_succ, List.getElem?_cons_zero, List.getElem?_cons_succ] at q0_0 q0_1 q0_2; (try clear lt_q0); have lt_q0 := q0.lt; replace q1 := q1.step hy; (try clear q1_0 q1_f0 q1_1 q1_f1 q1_2 q1_f2); have q1_0 := q1.cell 0; have q1_f0 := q1.frozen 0; have q1_1 := q1.cell 1; have q1_f1 := q1.frozen 1; have q1_2 := q1.cell 2; have q1_f2 := q1.frozen 2; simp only [List.set_cons_zero, List.set_cons_succ, List.getElem?_cons_zero, List.getElem?_cons_succ] at q1_0 q1_1 q1_2; (try clear lt_q1); have lt_q1 := q1.lt
          replace hb := hb.step hy
          clear hq hy
          go_wp2_with fail
          refine (hT _ (rC.step hb) (sC.step hb)).mono ?_; rintro e w6 ⟨rfl, hq⟩
          replace hb := hb.step (qt_below hq)
          go_wp2
          go_ret
          exact ⟨ret_bool hR.out.symm, hb1.step hb⟩
        · have e1 : decide (x.ts = y.ts) = false := by simp [hts]
          have hR := hide (show R = false by rw [HR.out, e1]; simp)
          rw [e1] at hT
          clear e1 hts HN HH1 HR
          go_wp2_with fail
          refine (hH _ (rB.step hb) (sB.step hb)).mono ?_; rintro e w5 ⟨rfl, hq⟩
          have hy := qt_below hq
          replace q0 := q0.step hy; (try clear q0_0 q0_f0 q0_1 q0_f1 q0_2 q0_f2); have q0_0 := q0.cell 0; have q0_f0 := q0.frozen 0; have q0_1 := q0.cell 1; have q0_f1 := q0.frozen 1; have q0_2 := q0.cell 2; have q0_f2 := q0.frozen 2; simp only [List.set_cons_zero, List.set_cons_succ, List.getElem?_cons_zero, List.getElem?_cons_succ] at q0_0 q0_1 q0_2; (try clear lt_q0); have lt_q0 := q0.lt; replace q1 := q1.step hy; (try clear q1_0 q1_f0 q1_1 q1_f1 q1_2 q1_f2); have q1_0 := q1.cell 0; have q1_f0 := q1.frozen 0; have q1_1 := q1.cell 1; have q1_f1 := q1.frozen 1; have q1_2 := q1.cell 2; have q1_f2 := q1.frozen 2; simp only [List.set_cons_zero, List.set_cons_succ, List.getElem?_cons_zero, List.getElem?_cons_succ] at q1_0 q1_1 q1_2; (try clear lt_q1); have lt_q1 := q1.lt
          replace hb := hb.step hy
          clear hq hy
          go_wp2_with fail
          refine (hT _ (rC.step hb) (sC.step hb)).mono ?_; rintro e w6 ⟨rfl, hq⟩
          replace hb := hb.step (qt_below hq)
          go_wp2
          go_ret
          exact ⟨ret_bool hR.out.symm, hb1.step hb⟩
      · have e1 : decide (x.hs = y.hs) = false := by simp [hhs]
        have hR := hide (show R = false by rw [HR.out, e1]; simp)
        rw [e1] at hH
        clear e1 hhs HN HR
        go_wp2_with fail
        refine (hH _ (rB.step hb) (sB.step hb)).mono ?_; rintro e w5 ⟨rfl, hq⟩
        replace hb := hb.step (qt_below hq)
        go_wp2
        go_ret
        exact ⟨ret_bool hR.out.symm, hb1.step hb⟩
    · have hlt : k < x.ns.length := by omega
      have h2 : k < y.ns.length := by omega
      have hki : (k : Int) < (x.ns.length : Int) := by omega
      have hki2 : (k : Int) < (y.ns.length : Int) := by omega
      obtain ⟨ad, rfl, hadb, a1, a2, a3⟩ := (rA.step hb).nd hlt
      obtain ⟨bd, rfl, hbdb, b1, b2, b3⟩ := (sA.step hb).nd h2
      have hE : ∀ b, b = decide (x.ns[k] = y.ns[k]) → ∀ w', (binOp .neq 64 (ndV x.ns[k]) (ndV y.ns[k])).run Try.prog w' = .ok (.bool (!b)) w' := by
        rintro b rfl w'
        generalize x.ns[k] = u
        generalize y.ns[k] = v
        obtain ⟨xg, xl, xv⟩ := u
        obtain ⟨yg, yl, yv⟩ := v
        have hS : Try.prog.underlying 64 = some (.struct (Try.prog.fieldsOf 64)) := by kernel_rfl
        have hp : Try.prog.stoodInHeld 64 = false := by kernel_rfl
        rw [run_neq_struct, show (10000 : Nat) = 9999 + 1 from rfl, run_equalIn_agg w' 9999 64 _ _ hS hp]
        simp only [Program.fieldsOf, Try.underlying64]
        go_simp
        by_cases h1 : xg = yg <;> by_cases h2 : xl = yl <;> by_cases h3 : xv = yv <;> simp [h1, h2, h3]
      have HN := hide (fun e : x.ns[k] = y.ns[k] => show x.ns.take (k + 1) = y.ns.take (k + 1) from take_eq_succ x.ns y.ns k hlt h2 HT.out e)
      have HF := hide (fun e : ¬ x.ns[k] = y.ns[k] => show R = false by
        have e1 : decide (x.ns = y.ns) = false := by
          rw [decide_eq_false_iff_not]
          intro e2
          apply e
          have : x.ns[k]? = y.ns[k]? := by rw [e2]
          rw [List.getElem?_eq_getElem hlt, List.getElem?_eq_getElem h2] at this
          injection this
        rw [HR.out, e1]; rfl)
      generalize x.ns[k] = u at *
      generalize y.ns[k] = v at *
      by_cases he : u = v
      · have hE1 := hE true (by simp [he])
        have HN2 := hide (HN.out he)
        clear he hE HN HF
        go_upto_region 6 with fail
        go_quiet (fail)
        go_wp2
        go_roundw
        case rel => exact ⟨k + 1, by rw [Int.natCast_add]; rfl, by omega, HN2, hb.drewN _⟩
        case measure => simp; omega
      · have hE1 := hE false (by simp [he])
        have hR := hide (HF.out he)
        clear he hE HN HF
        go_upto_region 6 with fail
        go_quiet (fail)
        go_wp2
        go_ret
        exact ⟨ret_bool hR.out.symm, hb1.step (hb.drewN _)⟩
end Go.Proofs.Ythicpjfdljgfpaa
