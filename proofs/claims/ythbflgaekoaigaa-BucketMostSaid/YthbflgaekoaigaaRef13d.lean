/- Contracts of the reference of chapter 13, further: Run. -/
import Derived.Test.YthbflgaekoaigaaRef13c
import Derived.Deep.DeepCutAuto
namespace Go.Proofs.Ythbflgaekoaigaa
open Go.RowKit
set_option linter.unusedSimpArgs false
set_option linter.unusedVariables false

set_option maxHeartbeats 2000000 in
theorem r13_Run_any (b r t a : Int) (A : Option Addr) (c : Nat) (l : List Int) (hl : l.length ≤ 1000000) (w : World) (hA : Rd w w.heap.size A (l.map (Value.int .i64))) :
    Calls Try.prog 21 #[.agg #[.int .i64 b, .int .i64 r], .agg #[.int .i64 t, .int .i64 a], .slice A l.length c] w fun e w' => ∃ B d, e = .returned (.tuple #[.agg #[.int .i64 (bRun b r (t, a) l).1.1, .int .i64 (bRun b r (t, a) l).1.2], .slice B l.length d]) ∧
      Rd w' w'.heap.size B ((bRun b r (t, a) l).2.map Value.bool) ∧ Fr w.heap.size B ∧ Below w.heap.size w w' := by
  obtain ⟨i0, hi, hz0, hz1, hz2⟩ := info_parts bool_info
  go_enter Try.func21, Try.ntmps21
  go_wp2_with fail
  generalize hW : (World.alloc (World.alloc (World.alloc w _) _) _) = w1
  have hbel : Below w.heap.size w w1 := by subst hW; (repeat (first | with_reducible exact Below.refl _ _ | with_reducible assumption | with_reducible refine Below.drew ?_ | with_reducible refine Below.drewN ?_ _ | with_reducible refine Below.alloc1 ?_ _ | with_reducible refine Below.setCell1 ?_ (by first | omega | (simp; done) | (simp; omega)) _ | with_reducible refine Below.step ?_ (by with_reducible assumption)))
  have hsz : w1.heap.size = w.heap.size + 3 := by subst hW; simp
  have k0 : Bk w1 (w.heap.size) 23 [.int .i64 b, .int .i64 r] := by subst hW; (repeat (first | with_reducible exact Bk.new' _ _ _ _ (by simp; done) | with_reducible assumption | with_reducible refine Bk.alloc ?_ _ | with_reducible refine Bk.drew ?_ | with_reducible refine Bk.drewN ?_ _ | with_reducible refine Bk.step ?_ (by with_reducible assumption) | with_reducible refine Bk.far ?_ (by first | omega | (simp; done) | (simp; omega)) _))
  have k1 : Bk w1 (w.heap.size + 1) 25 [.int .i64 t, .int .i64 a] := by subst hW; (repeat (first | with_reducible exact Bk.new' _ _ _ _ (by simp; done) | with_reducible assumption | with_reducible refine Bk.alloc ?_ _ | with_reducible refine Bk.drew ?_ | with_reducible refine Bk.drewN ?_ _ | with_reducible refine Bk.step ?_ (by with_reducible assumption) | with_reducible refine Bk.far ?_ (by first | omega | (simp; done) | (simp; omega)) _))
  have k2 : Bk w1 (w.heap.size + 1 + 1) 25 [.int .i64 0, .int .i64 0] := by subst hW; (repeat (first | with_reducible exact Bk.new' _ _ _ _ (by simp; done) | with_reducible assumption | with_reducible refine Bk.alloc ?_ _ | with_reducible refine Bk.drew ?_ | with_reducible refine Bk.drewN ?_ _ | with_reducible refine Bk.step ?_ (by with_reducible assumption) | with_reducible refine Bk.far ?_ (by first | omega | (simp; done) | (simp; omega)) _))
  have HZ := hide hsz
  clear hW hsz
  go_loopw [8, 9] (fun o i wr => ∃ k : Nat, k ≤ l.length ∧ i = .int .i64 k ∧ (∃ A' c', o = .slice A' k c' ∧ wr.ownsRow (w.heap.size + 3) 4 1 (.slice A' k c') k ((bRun b r (t, a) (l.take k)).2.map Value.bool)) ∧
      Bk wr (w.heap.size) 23 [.int .i64 b, .int .i64 r] ∧ Bk wr (w.heap.size + 1) 25 [.int .i64 (bRun b r (t, a) (l.take k)).1.1, .int .i64 (bRun b r (t, a) (l.take k)).1.2] ∧ Bk wr (w.heap.size + 1 + 1) 25 [.int .i64 0, .int .i64 0] ∧
      Below w.heap.size w wr ∧ w.heap.size + 3 ≤ wr.heap.size) (fun _ i _ => l.length - (intOf i).toNat)
  case atStart => exact ⟨0, Nat.zero_le _, rfl, ⟨none, 0, rfl, World.ownsRow_nil _ _ _ _⟩, k0, k1, k2, hbel, by rw [HZ.out]; omega⟩
  case round =>
    obtain ⟨k, hk, rfl, ⟨A', c', rfl, hown⟩, j0, j1, j2, hbr, hszr⟩ := hrel
    clear k0 k1 k2 hbel HZ
    by_cases hlt : k < l.length
    · obtain ⟨ad, rfl, hadb, hca⟩ := hA.at_ (k := k) (by simpa using hlt)
      have hc1 : wr.cell? (ad.add k) = some (.int .i64 l[k]) := by rw [hbr.cell (by rw [add_block]; exact hadb), hca]; simp
      have HX := hide (bRun_snoc b r (t, a) (l.take k) l[k])
      have HG : Hid (l.take (k + 1) = l.take k ++ [l[k]]) := take_snoc' l k hlt
      clear hca hA
      generalize bRun b r (t, a) (l.take k) = x at *
      have j0_0 := j0.cell 0; have j0_f0 := j0.frozen 0; have j0_1 := j0.cell 1; have j0_f1 := j0.frozen 1; simp only [List.set_cons_zero, List.set_cons_succ, List.getElem?_cons_zero, List.getElem?_cons_succ] at j0_0 j0_1
      have j1_0 := j1.cell 0; have j1_f0 := j1.frozen 0; have j1_1 := j1.cell 1; have j1_f1 := j1.frozen 1; simp only [List.set_cons_zero, List.set_cons_succ, List.getElem?_cons_zero, List.getElem?_cons_succ] at j1_0 j1_1
      go_upto_region 5 with fail
      go_cut [10, 11] (fun p q w' => ∃ g : Nat, p = .pointer (some ⟨g, 0, none⟩) ∧ q = .bool (bTake b r x.1.1 x.1.2 l[k] 1).2 ∧ Bk w' g 25 [.int .i64 (bTake b r x.1.1 x.1.2 l[k] 1).1.1, .int .i64 (bTake b r x.1.1 x.1.2 l[k] 1).1.2] ∧ wr.heap.size ≤ g ∧ Below wr.heap.size wr w')
      case first =>
        have HS : Hid (∀ w' : World, Below (wr.heap.size) wr w' → (w'.cell? ⟨w.heap.size, 0, none⟩ = some (.int .i64 b) ∧ w'.cell? ⟨w.heap.size, 1, none⟩ = some (.int .i64 r) ∧ w'.cell? ⟨w.heap.size + 1, 0, none⟩ = some (.int .i64 x.1.1) ∧ w'.cell? ⟨w.heap.size + 1, 1, none⟩ = some (.int .i64 x.1.2) ∧ w'.cell? (ad.add k) = some (.int .i64 l[k])) ∧ wr.heap.size ≤ w'.heap.size ∧ Below (wr.heap.size) wr w') := fun w' hB => ⟨⟨(hB.cell (p := ⟨w.heap.size, 0, none⟩) (by dsimp only; omega)).trans (j0_0), (hB.cell (p := ⟨w.heap.size, 1, none⟩) (by dsimp only; omega)).trans (j0_1), (hB.cell (p := ⟨w.heap.size + 1, 0, none⟩) (by dsimp only; omega)).trans (j1_0), (hB.cell (p := ⟨w.heap.size + 1, 1, none⟩) (by dsimp only; omega)).trans (j1_1), (hB.cell (p := (ad.add k)) (by rw [add_block]; omega)).trans (hc1)⟩, hB.size, hB⟩; go_region_held3 (fun w' => (w'.cell? ⟨w.heap.size, 0, none⟩ = some (.int .i64 b) ∧ w'.cell? ⟨w.heap.size, 1, none⟩ = some (.int .i64 r) ∧ w'.cell? ⟨w.heap.size + 1, 0, none⟩ = some (.int .i64 x.1.1) ∧ w'.cell? ⟨w.heap.size + 1, 1, none⟩ = some (.int .i64 x.1.2) ∧ w'.cell? (ad.add k) = some (.int .i64 l[k])) ∧ wr.heap.size ≤ w'.heap.size ∧ Below (wr.heap.size) wr w') ((go_split_ands; exact HS.out _ (by (repeat (first | with_reducible exact Below.refl _ _ | with_reducible assumption | with_reducible refine Below.drew ?_ | with_reducible refine Below.drewN ?_ _ | with_reducible refine Below.alloc ?_ (by first | omega | (simp; done) | (simp; omega)) _ | with_reducible refine Below.setCell ?_ (by first | omega | (simp; done) | (simp; omega)) _ | with_reducible refine Below.then_ ?_ (by with_reducible assumption) (by first | omega | (simp; done) | (simp; omega))))))) ((go_at_call 8; refine (r13_Take_tup _ _ _ _ _ _ (by omega) _).mono ?_; rintro e w2 ⟨rfl, hb2⟩; obtain ⟨hc_hb2, hf_hb2⟩ := bcell hb2; have hz_hb2 := hb2.size; (try simp at hz_hb2)))
        all_goals (go_wp2_with fail; go_meet)
        · exact ⟨_, rfl, rfl, Bk.new _ _ _, by first | omega | (simp; done) | (simp; omega), by (repeat (first | with_reducible exact Below.refl _ _ | with_reducible assumption | with_reducible refine Below.drew ?_ | with_reducible refine Below.drewN ?_ _ | with_reducible refine Below.alloc1 ?_ _ | with_reducible refine Below.setCell1 ?_ (by first | omega | (simp; done) | (simp; omega)) _ | with_reducible refine Below.step ?_ (by with_reducible assumption)))⟩
        · exact ⟨_, rfl, rfl, ((Bk.below (Bk.drew (Bk.new wr 25 [.int .i64 0, .int .i64 0])) hb2 (by first | omega | (simp; done) | (simp; omega))).set_ 0 _).set_ 1 _, by first | omega | (simp; done) | (simp; omega), by (repeat (first | with_reducible exact Below.refl _ _ | with_reducible assumption | with_reducible refine Below.drew ?_ | with_reducible refine Below.drewN ?_ _ | with_reducible refine Below.alloc1 ?_ _ | with_reducible refine Below.setCell1 ?_ (by first | omega | (simp; done) | (simp; omega)) _ | with_reducible refine Below.step ?_ (by with_reducible assumption)))⟩
      case rest =>
        obtain ⟨g, rfl, rfl, kg, hgw, hbc⟩ := hcut
        have hzc := hbc.size
        have q0 := j0.below hbc (by omega)
        have q1 := j1.below hbc (by omega)
        have q2 := j2.below hbc (by omega)
        have hbw : Below w.heap.size w wc := hbr.then_ hbc (by omega)
        have hown2 : wc.ownsRow (w.heap.size + 3) 4 1 (.slice A' k c') k (x.2.map Value.bool) := own_below hown hbc (Nat.le_refl _)
        have ltg := kg.lt
        clear j0 j1 j2 j0_0 j0_1 j0_f0 j0_f1 j1_0 j1_1 j1_f0 j1_f1 hown hbc hc1
        have kg_0 := kg.cell 0; have kg_f0 := kg.frozen 0; have kg_1 := kg.cell 1; have kg_f1 := kg.frozen 1; simp only [List.set_cons_zero, List.set_cons_succ, List.getElem?_cons_zero, List.getElem?_cons_succ] at kg_0 kg_1
        have q1_0 := q1.cell 0; have q1_f0 := q1.frozen 0; have q1_1 := q1.cell 1; have q1_f1 := q1.frozen 1; simp only [List.set_cons_zero, List.set_cons_succ, List.getElem?_cons_zero, List.getElem?_cons_succ] at q1_0 q1_1
        have hne : ¬ g = w.heap.size + 1 := by omega
        go_upto_region 7 with fail
        have q1' := (q1.set_ 0 (.int .i64 (bTake b r x.1.1 x.1.2 l[k] 1).1.1)).set_ 1 (.int .i64 (bTake b r x.1.1 x.1.2 l[k] 1).1.2)
        simp only [List.set_cons_zero, List.set_cons_succ] at q1'
        have q0' := (q0.far (p := ⟨w.heap.size + 1, 0, none⟩) (by dsimp only; omega) (.int .i64 (bTake b r x.1.1 x.1.2 l[k] 1).1.1)).far (p := ⟨w.heap.size + 1, 1, none⟩) (by dsimp only; omega) (.int .i64 (bTake b r x.1.1 x.1.2 l[k] 1).1.2)
        have q2' := (q2.far (p := ⟨w.heap.size + 1, 0, none⟩) (by dsimp only; omega) (.int .i64 (bTake b r x.1.1 x.1.2 l[k] 1).1.1)).far (p := ⟨w.heap.size + 1, 1, none⟩) (by dsimp only; omega) (.int .i64 (bTake b r x.1.1 x.1.2 l[k] 1).1.2)
        have hown3 := own_far (p := ⟨w.heap.size + 1, 1, none⟩) (own_far (p := ⟨w.heap.size + 1, 0, none⟩) hown2 (by dsimp only; omega) (.int .i64 (bTake b r x.1.1 x.1.2 l[k] 1).1.1)) (by dsimp only; omega) (.int .i64 (bTake b r x.1.1 x.1.2 l[k] 1).1.2)
        have hbw' : Below w.heap.size w ((wc.setCell ⟨w.heap.size + 1, 0, none⟩ (.int .i64 (bTake b r x.1.1 x.1.2 l[k] 1).1.1)).setCell ⟨w.heap.size + 1, 1, none⟩ (.int .i64 (bTake b r x.1.1 x.1.2 l[k] 1).1.2)) := by (repeat (first | with_reducible exact Below.refl _ _ | with_reducible assumption | with_reducible refine Below.drew ?_ | with_reducible refine Below.drewN ?_ _ | with_reducible refine Below.alloc1 ?_ _ | with_reducible refine Below.setCell1 ?_ (by first | omega | (simp; done) | (simp; omega)) _ | with_reducible refine Below.step ?_ (by with_reducible assumption)))
        have hzw' : w.heap.size + 3 ≤ ((wc.setCell ⟨w.heap.size + 1, 0, none⟩ (.int .i64 (bTake b r x.1.1 x.1.2 l[k] 1).1.1)).setCell ⟨w.heap.size + 1, 1, none⟩ (.int .i64 (bTake b r x.1.1 x.1.2 l[k] 1).1.2)).heap.size := by simp [World.setCell]; omega
        clear q0 q1 q2 hown2 hbw hzc kg kg_0 kg_1 kg_f0 kg_f1 q1_0 q1_1 q1_f0 q1_f1
        generalize (World.setCell (World.setCell wc _ _) _ _) = w3 at *
        go_wp2_with (at_builtin; refine wpList_app rfl (.tmp 29) (.tmp 31) 48 rfl (w.heap.size + 3) 4 i0 _ 1 1 Try.underlying48 hi hz0 hz1 hz2 rfl (by omega) A' k c' (x.2.map Value.bool) rfl (hown3.alloc _) ⟨w3.heap.size, 0, none⟩ 1 1 [.bool (bTake b r x.1.1 x.1.2 l[k] 1).2] rfl rfl (news_at (cs := [_])) (by simp [Value.oneCell']) (by unfold maxLen; omega) (by omega) (by simp; omega) (by omega) ?_; intro g4 cap w4 hown4 hb4)
        go_roundw
        case rel =>
          have e : bRun b r (t, a) (l.take (k + 1)) = ((bTake b r x.1.1 x.1.2 l[k] 1).1, x.2 ++ [(bTake b r x.1.1 x.1.2 l[k] 1).2]) := by
            rw [HG.out]; exact HX.out
          have h4 := hb4.size
          simp at h4
          have hnew : Below w3.heap.size w3 (w3.alloc (.cells #[.bool (bTake b r x.1.1 x.1.2 l[k] 1).2] 4)) := by (repeat (first | with_reducible exact Below.refl _ _ | with_reducible assumption | with_reducible refine Below.drew ?_ | with_reducible refine Below.drewN ?_ _ | with_reducible refine Below.alloc1 ?_ _ | with_reducible refine Below.setCell1 ?_ (by first | omega | (simp; done) | (simp; omega)) _ | with_reducible refine Below.step ?_ (by with_reducible assumption)))
          have hb4' : Below (w.heap.size + 3) w3 w4 := (hnew.mono hzw').trans hb4
          refine ⟨k + 1, by omega, by go_num, ?_⟩
          rw [e]
          refine ⟨⟨_, _, rfl, ?_⟩, q0'.below hb4' (by omega), q1'.below hb4' (by omega), q2'.below hb4' (by omega), hbw'.trans (hb4'.mono (by omega)), by omega⟩
          simpa using hown4
        case measure => simp [intOf]; omega
    · have j1_0 := j1.cell 0; have j1_f0 := j1.frozen 0; have j1_1 := j1.cell 1; have j1_f1 := j1.frozen 1; simp only [List.set_cons_zero, List.set_cons_succ, List.getElem?_cons_zero, List.getElem?_cons_succ] at j1_0 j1_1
      have j2_0 := j2.cell 0; have j2_f0 := j2.frozen 0; have j2_1 := j2.cell 1; have j2_f1 := j2.frozen 1; simp only [List.set_cons_zero, List.set_cons_succ, List.getElem?_cons_zero, List.getElem?_cons_succ] at j2_0 j2_1
      rw [List.take_of_length_le (by omega)] at hown j1 j1_0 j1_1
      obtain rfl : k = l.length := by omega
      go_wp2_with fail
      exact bodyPost_ret (v := .tuple #[.agg #[.int .i64 (bRun b r (t, a) l).1.1, .int .i64 (bRun b r (t, a) l).1.2], .slice A' l.length c']) (by simp only [results, Try.results21]; go_simp) rfl
        ⟨A', c', rfl, own_rd (own_far (p := ⟨w.heap.size + 1 + 1, 1, none⟩) (own_far (p := ⟨w.heap.size + 1 + 1, 0, none⟩) hown (by dsimp only; omega) _) (by dsimp only; omega) _), (own_fr hown).mono (by omega), by (repeat (first | with_reducible exact Below.refl _ _ | with_reducible assumption | with_reducible refine Below.drew ?_ | with_reducible refine Below.drewN ?_ _ | with_reducible refine Below.alloc1 ?_ _ | with_reducible refine Below.setCell1 ?_ (by first | omega | (simp; done) | (simp; omega)) _ | with_reducible refine Below.step ?_ (by with_reducible assumption)))⟩
end Go.Proofs.Ythbflgaekoaigaa
