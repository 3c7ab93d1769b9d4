/- The walk of AdmitMost. -/
import Derived.Test.YtolpiaehleefbaaRun18b
import Derived.Test.YtolpiaehleefbaaStp18
import Derived.Test.YtolpiaehleefbaaAwake18
namespace Go.Proofs.Ytolpiaehleefbaa
open Go.RowKit Go.Sort
set_option linter.unusedSimpArgs false
set_option linter.unusedVariables false

set_option maxRecDepth 100000 in
set_option maxHeartbeats 16000000 in
theorem AdmitMost_walk (n0 n1 n2 n3 : Int) (A : Option Addr) (c : Nat) (l : List (Int × Int × Int × Int)) (w : World) (hn0 : 0 ≤ n0 ∧ n0 ≤ 255) (hn1 : 0 ≤ n1 ∧ n1 ≤ 255) (hn2 : 0 ≤ n2 ∧ n2 ≤ 255) (hn3 : 0 ≤ n3 ∧ n3 ≤ 255) (hl : l.length ≤ maxLen) (hlb : ∀ x ∈ l, (0 ≤ x.1 ∧ x.1 ≤ 255) ∧ (0 ≤ x.2.1 ∧ x.2.1 ≤ 255) ∧ (0 ≤ x.2.2.1 ∧ x.2.2.1 ≤ 255) ∧ 0 ≤ x.2.2.2 ∧ x.2.2.2 ≤ 65535) (ha : Rd w w.heap.size A (stpR l)) :
    Calls Try.prog 4 #[.agg #[.int .u8 n0, .int .u8 n1, .int .u8 n2, .int .u8 n3], .slice A l.length c] w fun e w' => e = .returned (.bool true) ∧ Below w.heap.size w w' := by
  by_cases h50 : 50 < l.length
  · have g1 : (50 : Int) < (l.length : Int) := by omega
    go_enter Try.func4, Try.ntmps4
    go_wp2_with fail
    refine (awake18_any _).mono ?_; rintro e y1 ⟨rfl, hx2⟩
    go_wp2
    go_ret
    exact ⟨rfl, by (repeat (first | with_reducible exact Below.refl _ _ | with_reducible assumption | with_reducible refine Below.drew ?_ | with_reducible refine Below.drewN ?_ _ | with_reducible refine Below.alloc1 ?_ _ | with_reducible refine Below.setCell1 ?_ (by first | omega | (simp; done) | (simp; omega)) _ | with_reducible refine Below.step ?_ (by with_reducible assumption)))⟩
  have g1 : (l.length : Int) ≤ 50 := by omega
  have hll : l.length ≤ 50 := by omega
  have HLB := hide hlb
  clear hlb h50
  have m0 : n0.tmod 8 = n0 % 8 := Int.tmod_eq_emod_of_nonneg hn0.1
  have m1 : n1.tmod 8 = n1 % 8 := Int.tmod_eq_emod_of_nonneg hn1.1
  have m2 : n2.tmod 8 = n2 % 8 := Int.tmod_eq_emod_of_nonneg hn2.1
  have m3 : n3.tmod 8 = n3 % 8 := Int.tmod_eq_emod_of_nonneg hn3.1
  have e0 : 0 ≤ n0 % 8 ∧ n0 % 8 ≤ 7 := by omega
  have e1 : 0 ≤ n1 % 8 ∧ n1 % 8 ≤ 7 := by omega
  have e2 : 0 ≤ n2 % 8 ∧ n2 % 8 ≤ 7 := by omega
  have e3 : 0 ≤ n3 % 8 ∧ n3 % 8 ≤ 7 := by omega
  go_enter Try.func4, Try.ntmps4
  go_upto_region 1 with fail
  generalize hV : World.alloc w _ = w1
  have hb : Below w.heap.size w w1 := by subst hV; (repeat (first | with_reducible exact Below.refl _ _ | with_reducible assumption | with_reducible refine Below.drew ?_ | with_reducible refine Below.drewN ?_ _ | with_reducible refine Below.alloc1 ?_ _ | with_reducible refine Below.setCell1 ?_ (by first | omega | (simp; done) | (simp; omega)) _ | with_reducible refine Below.step ?_ (by with_reducible assumption)))
  have kn : Bk w1 w.heap.size 79 [.int .u8 n0, .int .u8 n1, .int .u8 n2, .int .u8 n3] := by subst hV; (repeat (first | with_reducible exact Bk.new' _ _ _ _ (by simp; done) | with_reducible assumption | with_reducible refine Bk.alloc ?_ _ | with_reducible refine Bk.drew ?_ | with_reducible refine Bk.drewN ?_ _ | with_reducible refine Bk.step ?_ (by with_reducible assumption) | with_reducible refine Bk.far ?_ (by first | omega | (simp; done) | (simp; omega)) _))
  clear hV
  go_upto_region 3 with fail
  go_wp2_with fail
  refine (admit_Usual_any _).mono ?_; rintro e y1 ⟨rfl, hx⟩
  replace kn := kn.step hx; replace hb : Below w.heap.size w y1 := hb.step hx
  have hcw : w.heap.size < y1.heap.size := kn.lt
  clear hx
  have kz := Bk.new y1 44 [.int .i64 0, .int .i64 0, .int .i64 0, .int .i64 0, .int .i64 0, .int .i64 0, .int .i64 0, .int .i64 0, .int .i64 0, .int .i64 0, .int .i64 0, .int .i64 0, .int .i64 0, .int .i64 0, .int .i64 0, .int .i64 0, .int .i64 0, .int .i64 0, .int .i64 0]
  go_upto_region 4 with (first | (refine wpList_store_row rfl 44 _ _ rfl _ (acC 8 2 3 1 (u3 50 75 90) (u3 40 60 80) 5 uLo uHi).toArray rfl rfl _ _ kz (by kernel_rfl) (by kernel_rfl) (by kernel_rfl) ?_))
  have kc := kz.row (acC 8 2 3 1 (u3 50 75 90) (u3 40 60 80) 5 uLo uHi)
  have hy := setRow_below (Below.alloc1 (Below.refl y1.heap.size y1) (.cells ([.int .i64 0, .int .i64 0, .int .i64 0, .int .i64 0, .int .i64 0, .int .i64 0, .int .i64 0, .int .i64 0, .int .i64 0, .int .i64 0, .int .i64 0, .int .i64 0, .int .i64 0, .int .i64 0, .int .i64 0, .int .i64 0, .int .i64 0, .int .i64 0, .int .i64 0] : List Value).toArray 44)) (Nat.le_refl _) (acC 8 2 3 1 (u3 50 75 90) (u3 40 60 80) 5 uLo uHi).toArray
  generalize hV : World.setRow _ _ _ = w2 at kc hy ⊢
  replace kn := kn.step hy; replace hb := hb.step hy
  clear hV hy kz
  have lc := kc.lt
  have ln := kn.lt
  generalize y1.heap.size = gc at *
  have kn_0 := kn.cell 0; have kn_1 := kn.cell 1; have kn_2 := kn.cell 2; have kn_3 := kn.cell 3; simp only [List.getElem?_cons_succ, List.getElem?_cons_zero, mkC] at kn_0 kn_1 kn_2 kn_3
  have kc_0 := kc.cell 0; have kc_1 := kc.cell 1; simp only [List.getElem?_cons_succ, List.getElem?_cons_zero, mkC] at kc_0 kc_1
  have kc_f0 := kc.frozen 0; have kc_f1 := kc.frozen 1
  go_upto_region 5 with fail
  generalize hV : World.setCell (World.setCell _ _ _) _ _ = w3
  obtain ⟨b1, hb1⟩ : ∃ b, b = 1 + n0 % 8 := ⟨_, rfl⟩
  obtain ⟨r1, hr1⟩ : ∃ b, b = n1 % 8 := ⟨_, rfl⟩
  have g1b : 1 ≤ b1 ∧ b1 ≤ 8 := by omega
  have g1r : 0 ≤ r1 ∧ r1 ≤ 7 := by omega
  rw [← hb1, ← hr1] at hV
  have hb3 : Below w.heap.size w w3 := by subst hV; exact (hb.setCell (by dsimp only; omega) _).setCell (by dsimp only; omega) _
  have kc3 : Bk w3 gc 44 (acC b1 r1 3 1 (u3 50 75 90) (u3 40 60 80) 5 uLo uHi) := by subst hV; exact (kc.set_ 0 _).set_ 1 _
  have kn3 : Bk w3 w.heap.size 79 [.int .u8 n0, .int .u8 n1, .int .u8 n2, .int .u8 n3] := by subst hV; exact (kn.far (by dsimp only; omega) _).far (by dsimp only; omega) _
  have lc3 := kc3.lt
  have ln3 := kn3.lt
  clear hV kn kc hb kn_0 kn_1 kn_2 kn_3 kc_0 kc_1 kc_f0 kc_f1 lc ln m0 m1 e0 e1 hn0 hn1 hb1 hr1
  have kn3_2 := kn3.cell 2; have kn3_3 := kn3.cell 3; simp only [List.getElem?_cons_succ, List.getElem?_cons_zero, mkC] at kn3_2 kn3_3
  have kc3_2 := kc3.cell 2; have kc3_3 := kc3.cell 3; simp only [List.getElem?_cons_succ, List.getElem?_cons_zero, mkC] at kc3_2 kc3_3
  have kc3_f2 := kc3.frozen 2; have kc3_f3 := kc3.frozen 3
  go_upto_region 6 with fail
  generalize hV : World.setCell (World.setCell _ _ _) _ _ = w4
  obtain ⟨b2, hb2⟩ : ∃ b, b = 1 + n2 % 8 := ⟨_, rfl⟩
  obtain ⟨r2, hr2⟩ : ∃ b, b = n3 % 8 := ⟨_, rfl⟩
  have g2b : 1 ≤ b2 ∧ b2 ≤ 8 := by omega
  have g2r : 0 ≤ r2 ∧ r2 ≤ 7 := by omega
  rw [← hb2, ← hr2] at hV
  have hb : Below w.heap.size w w4 := by subst hV; exact (hb3.setCell (by dsimp only; omega) _).setCell (by dsimp only; omega) _
  have kc : Bk w4 gc 44 (acC b1 r1 b2 r2 (u3 50 75 90) (u3 40 60 80) 5 uLo uHi) := by subst hV; exact (kc3.set_ 2 _).set_ 3 _
  clear hV kn3 kc3 hb3 kn3_2 kn3_3 kc3_2 kc3_3 kc3_f2 kc3_f3 lc3 ln3 m2 m3 e2 e3 hn2 hn3 hb2 hr2
  have G1 := hide (bGood_mk g1b.1 (by omega) g1r.1 (by omega))
  have G2 := hide (bGood_mk g2b.1 (by omega) g2r.1 (by omega))
  clear g1b g1r g2b g2r
  have hN := fun W => admit_New_any (mkC b1 r1 b2 r2) W
  rw [aNew_mk G1.out G2.out] at hN
  go_wp2_with (first | (refine wpList_load_row rfl 44 _ rfl _ rfl _ _ (0, 0) _ kc Try.underlying44 rfl (by kernel_rfl) ?_))
  refine (hN _).mono ?_; rintro e y5 ⟨rfl, hx⟩
  replace kc := kc.step hx; replace hb := hb.step hx
  clear hx hN
  have kz := Bk.new y5 51 [.int .i64 0, .int .i64 0, .slice none 0 0, .int .i64 0, .int .i64 0, .int .i64 0, .int .i64 0, .int .i64 0]
  go_upto_region 7 with (first | (refine wpList_store_row rfl 51 _ _ rfl _ (azC b1 0 none 0 0 0 0 (-1) 0 0).toArray rfl rfl _ _ kz (by kernel_rfl) (by kernel_rfl) (by kernel_rfl) ?_))
  have ks := kz.row (azC b1 0 none 0 0 0 0 (-1) 0 0)
  have hy := setRow_below (Below.alloc1 (Below.refl y5.heap.size y5) (.cells ([.int .i64 0, .int .i64 0, .slice none 0 0, .int .i64 0, .int .i64 0, .int .i64 0, .int .i64 0, .int .i64 0] : List Value).toArray 51)) (Nat.le_refl _) (azC b1 0 none 0 0 0 0 (-1) 0 0).toArray
  generalize hV : World.setRow _ _ _ = w6 at ks hy ⊢
  replace kc := kc.step hy; replace hb := hb.step hy
  clear hV hy kz
  go_upto_region 10 with (first | (refine wpList_load_row rfl 44 _ rfl _ rfl _ _ (0, 0) _ kc Try.underlying44 rfl (by kernel_rfl) ?_) | (refine wpList_load_row rfl 51 _ rfl _ rfl _ _ (0, 0) _ ks Try.underlying51 rfl (by kernel_rfl) ?_) | (refine wpList_buildG 85 _ rfl (runC (mkC b1 r1 b2 r2) ⟨b1, 0, [], 0, 0, -1, 0, 0⟩ none 0 none 0 0 0).toArray (by kernel_rfl) (by kernel_rfl) ?_))
  generalize hV : World.alloc w6 _ = w7
  have kr : Bk w7 w6.heap.size 85 (runC (mkC b1 r1 b2 r2) ⟨b1, 0, [], 0, 0, -1, 0, 0⟩ none 0 none 0 0 0) := by subst hV; exact Bk.new' _ _ _ _ rfl
  have hy : Below w6.heap.size w6 w7 := by subst hV; (repeat (first | with_reducible exact Below.refl _ _ | with_reducible assumption | with_reducible refine Below.drew ?_ | with_reducible refine Below.drewN ?_ _ | with_reducible refine Below.alloc1 ?_ _ | with_reducible refine Below.setCell1 ?_ (by first | omega | (simp; done) | (simp; omega)) _ | with_reducible refine Below.step ?_ (by with_reducible assumption)))
  have hgw : w.heap.size ≤ w6.heap.size := hb.size
  replace kc := kc.step hy; replace hb := hb.step hy
  clear hV hy ks
  have hR0 : RunAt w7 w6.heap.size (mkC b1 r1 b2 r2) ⟨b1, 0, [], 0, 0, -1, 0, 0⟩ [] 0 none 0 none 0 := ⟨kr, Rd.nil, TyA.none _ _, World.ownsRow_nil _ _ _ _⟩
  generalize w6.heap.size = g at *
  have HR0 := hide (Rn.init (b1 := b1) (r1 := r1) (b2 := b2) (r2 := r2) G1.out G2.out)
  clear kr
  go_wp2_with fail
  go_loopw [9] (fun iv wr => ∃ (k : Nat) (x : AS) (ins : List (Int × Int)) (f : Nat → Int × Int) (N : Int) (A2 : Option Addr) (d2 : Nat) (I : Option Addr) (cap : Nat), k ≤ l.length ∧ iv = .int .i64 k ∧ RunAt wr g (mkC b1 r1 b2 r2) x ins N A2 d2 I cap ∧ Hid (Rn b1 r1 b2 r2 x ins N (2 * k) f) ∧ Below w.heap.size w wr) (fun iv _ => l.length - (intOf iv).toNat)
  case atStart => exact ⟨0, _, _, _, _, _, _, _, _, Nat.zero_le _, rfl, hR0, HR0, hb⟩
  case round =>
    clear hR0 HR0 kc hb
    obtain ⟨k, x, ins, f, N, A2, d2, I, cap, hk, rfl, hR, HR, hbr⟩ := hrel
    by_cases hlt : k < l.length
    · obtain ⟨ad, rfl, hadb, c0, c1, c2, c3⟩ := (ha.below hbr).stps hlt
      have hg := HLB.out _ (List.getElem_mem hlt)
      generalize l[k] = q at *
      obtain ⟨q0, q1, q2, q3⟩ := q
      dsimp only at *
      have lr := hR.bk.lt
      have hst := run_step_any HR.out (by omega) A2 d2 I cap g q0 q1 q2 q3 hg.1 hg.2.1 hg.2.2.1 hg.2.2.2 wr hR
      go_wp2_with fail
      refine hst.mono ?_; rintro e x1 ⟨rfl, x', ins', f', A3, d3, I3, cap3, hR', hRn', hb'⟩
      have HR' := hide hRn'
      clear hRn' hst
      go_wp2_with fail
      go_roundw
      case rel => exact ⟨k + 1, x', ins', f', _, A3, d3, I3, cap3, by omega, by go_num, hR', HR', hbr.trans (hb'.mono (by omega))⟩
      case measure => simp [intOf]; omega
    · go_wp2_with fail
      refine (awake18_any _).mono ?_; rintro e y9 ⟨rfl, hx⟩
      go_wp2
      go_ret
      exact ⟨rfl, hbr.step hx⟩
end Go.Proofs.Ytolpiaehleefbaa
