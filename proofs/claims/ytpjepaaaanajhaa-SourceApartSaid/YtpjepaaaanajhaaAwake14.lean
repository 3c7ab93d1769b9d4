/- callboylaw14: awake. -/
import Derived.Test.YtpjepaaaanajhaaRef14
namespace Go.Proofs.Ytpjepaaaanajhaa
open Go.RowKit Go.Sort
set_option linter.unusedSimpArgs false
set_option linter.unusedVariables false

def aE1 : List En := [⟨5, 0, 0⟩]
def aE2 : List En := [⟨3, 0, 0⟩, ⟨5, 0, 0⟩]
theorem aw14_T1 : eTake 1 1 [] 5 0 = (aE1, 0) := by kernel_rfl
theorem aw14_T2 : eTake 1 1 aE1 5 0 = (aE1, 14) := by kernel_rfl
theorem aw14_T3 : eTake 1 1 aE1 3 0 = (aE2, 0) := by kernel_rfl
theorem aw14_T4 : eTake 1 1 aE2 (-1) 0 = (aE2, 2) := by kernel_rfl
theorem aw14_C1 : eClean 1 1 aE2 1 = [] := by kernel_rfl
theorem aw14_L1 : eLevel 1 1 aE2 5 0 = 0 := by kernel_rfl
theorem aw14_L2 : eLevel 1 1 aE2 7 0 = 1 := by kernel_rfl
theorem aw14_W1 : eWait 1 1 aE2 5 0 = 1 := by kernel_rfl
theorem aw14_K1 : eCheck 1 1 aE2 = 0 := by kernel_rfl
theorem aw14_K2 : eCheck 1 1 [⟨-1, 0, 0⟩] = 8 := by kernel_rfl
set_option maxRecDepth 100000 in
set_option maxHeartbeats 16000000 in
theorem awake14_any (w : World) : Calls Try.prog 6 #[] w fun e w' => e = .returned (.bool true) ∧ Below w.heap.size w w' := by
  have T1 := fun W => source_Take_any none 0 1 1 [] 5 0 W (by simp) Rd.nil
  have T2 := fun A c W h => source_Take_any A c 1 1 aE1 5 0 W (by simp [aE1]) h
  have T3 := fun A c W h => source_Take_any A c 1 1 aE1 3 0 W (by simp [aE1]) h
  have T4 := fun A c W h => source_Take_any A c 1 1 aE2 (-1) 0 W (by simp [aE2]) h
  have C1 := fun A c W h => source_Clean_any A c 1 1 aE2 1 W (by simp [aE2]) h
  have S1 := fun A B c d W h1 h2 => source_Same_any A B c d aE1 aE1 W (by simp [aE1]) h1 h2
  have S2 := fun A B c d W h1 h2 => source_Same_any A B c d aE1 aE2 W (by simp [aE1]) h1 h2
  have Q1 := fun A c W h => source_Sources_any A c aE2 W (by simp [aE2]) h
  have L1 := fun A c W h => (source_Level_any A c 1 1 aE2 5 0 W (by simp [aE2]) h).lit (congrArg (Value.int .i64) aw14_L1)
  have L2 := fun A c W h => (source_Level_any A c 1 1 aE2 7 0 W (by simp [aE2]) h).lit (congrArg (Value.int .i64) aw14_L2)
  have W1 := fun A c W h => (source_Wait_any A c 1 1 aE2 5 0 W (by simp [aE2]) h).lit (congrArg (Value.int .i64) aw14_W1)
  have K1 := fun A c W h => (source_Check_any A c 1 1 aE2 W (by simp [aE2]) h).lit (congrArg (Value.int .i64) aw14_K1)
  have K2 := fun A c W h => (source_Check_any A c 1 1 [⟨-1, 0, 0⟩] W (by simp) h).lit (congrArg (Value.int .i64) aw14_K2)
  simp only [aw14_T1, List.length_nil] at T1
  simp only [aw14_T2] at T2
  simp only [aw14_T3] at T3
  simp only [aw14_T4] at T4
  simp only [aw14_C1, List.length_nil] at C1
  rw [show decide (aE1 = aE1) = true from by kernel_rfl] at S1
  rw [show decide (aE1 = aE2) = false from by kernel_rfl] at S2
  replace T1 := hide T1
  replace T2 := hide T2
  replace T3 := hide T3
  replace T4 := hide T4
  replace C1 := hide C1
  replace S1 := hide S1
  replace S2 := hide S2
  replace Q1 := hide Q1
  replace L1 := hide L1
  replace L2 := hide L2
  replace W1 := hide W1
  replace K1 := hide K1
  replace K2 := hide K2
  go_enter Try.func6, Try.ntmps6
  have hb : Below w.heap.size w w := Below.refl _ _
  go_wp2_with fail
  generalize hV : World.alloc w _ = w1
  have hy : Below w.heap.size w w1 := by subst hV; (repeat (first | with_reducible exact Below.refl _ _ | with_reducible assumption | with_reducible refine Below.drew ?_ | with_reducible refine Below.drewN ?_ _ | with_reducible refine Below.alloc1 ?_ _ | with_reducible refine Below.setCell1 ?_ (by first | omega | (simp; done) | (simp; omega)) _ | with_reducible refine Below.step ?_ (by with_reducible assumption)))
  have k1 : Bk w1 w.heap.size 27 [.int .i64 1, .int .i64 1] := by subst hV; (repeat (first | with_reducible exact Bk.new' _ _ _ _ (by simp; done) | with_reducible assumption | with_reducible refine Bk.alloc ?_ _ | with_reducible refine Bk.drew ?_ | with_reducible refine Bk.drewN ?_ _ | with_reducible refine Bk.step ?_ (by with_reducible assumption) | with_reducible refine Bk.far ?_ (by first | omega | (simp; done) | (simp; omega)) _))
  clear hV
  replace hb : Below w.heap.size w w1 := hb.step hy
  have k1_0 := k1.cell 0; have k1_f0 := k1.frozen 0; have k1_1 := k1.cell 1; have k1_f1 := k1.frozen 1; simp only [List.set_cons_zero, List.set_cons_succ, List.getElem?_cons_zero, List.getElem?_cons_succ] at k1_0 k1_1; have lt_k1 := k1.lt
  clear hy
  refine (T1.out _).mono ?_; rintro e w2 ⟨A1, c1, rfl, r1, hy⟩
  replace k1 := k1.step hy; (try clear k1_0 k1_f0 k1_1 k1_f1); have k1_0 := k1.cell 0; have k1_f0 := k1.frozen 0; have k1_1 := k1.cell 1; have k1_f1 := k1.frozen 1; simp only [List.set_cons_zero, List.set_cons_succ, List.getElem?_cons_zero, List.getElem?_cons_succ] at k1_0 k1_1; (try clear lt_k1); have lt_k1 := k1.lt
  replace hb : Below w.heap.size w w2 := hb.step hy
  clear hy T1
  go_wp2_with fail
  refine (T2.out A1 c1 _ r1).mono ?_; rintro e w3 ⟨A2, c2, rfl, r2, hy⟩
  replace k1 := k1.step hy; (try clear k1_0 k1_f0 k1_1 k1_f1); have k1_0 := k1.cell 0; have k1_f0 := k1.frozen 0; have k1_1 := k1.cell 1; have k1_f1 := k1.frozen 1; simp only [List.set_cons_zero, List.set_cons_succ, List.getElem?_cons_zero, List.getElem?_cons_succ] at k1_0 k1_1; (try clear lt_k1); have lt_k1 := k1.lt
  replace r1 := r1.step hy
  replace hb : Below w.heap.size w w3 := hb.step hy
  clear hy T2
  go_wp2_with fail
  refine (T3.out A2 c2 _ r2).mono ?_; rintro e w4 ⟨A3, c3, rfl, r3, hy⟩
  replace k1 := k1.step hy; (try clear k1_0 k1_f0 k1_1 k1_f1); have k1_0 := k1.cell 0; have k1_f0 := k1.frozen 0; have k1_1 := k1.cell 1; have k1_f1 := k1.frozen 1; simp only [List.set_cons_zero, List.set_cons_succ, List.getElem?_cons_zero, List.getElem?_cons_succ] at k1_0 k1_1; (try clear lt_k1); have lt_k1 := k1.lt
  replace r1 := r1.step hy
  replace r2 := r2.step hy
  replace hb : Below w.heap.size w w4 := hb.step hy
  clear hy T3
  go_wp2_with fail
  refine (C1.out A3 c3 _ r3).mono ?_; rintro e w5 ⟨A4, c4, rfl, _, hy⟩
  replace k1 := k1.step hy; (try clear k1_0 k1_f0 k1_1 k1_f1); have k1_0 := k1.cell 0; have k1_f0 := k1.frozen 0; have k1_1 := k1.cell 1; have k1_f1 := k1.frozen 1; simp only [List.set_cons_zero, List.set_cons_succ, List.getElem?_cons_zero, List.getElem?_cons_succ] at k1_0 k1_1; (try clear lt_k1); have lt_k1 := k1.lt
  replace r1 := r1.step hy
  replace r2 := r2.step hy
  replace r3 := r3.step hy
  replace hb : Below w.heap.size w w5 := hb.step hy
  clear hy C1
  go_wp2_with fail
  refine (T4.out A3 c3 _ r3).mono ?_; rintro e w6 ⟨A5, c5, rfl, _, hy⟩
  replace k1 := k1.step hy; (try clear k1_0 k1_f0 k1_1 k1_f1); have k1_0 := k1.cell 0; have k1_f0 := k1.frozen 0; have k1_1 := k1.cell 1; have k1_f1 := k1.frozen 1; simp only [List.set_cons_zero, List.set_cons_succ, List.getElem?_cons_zero, List.getElem?_cons_succ] at k1_0 k1_1; (try clear lt_k1); have lt_k1 := k1.lt
  replace r1 := r1.step hy
  replace r2 := r2.step hy
  replace r3 := r3.step hy
  replace hb : Below w.heap.size w w6 := hb.step hy
  clear hy T4
  go_wp2_with fail
  refine (S1.out A1 A2 c1 c2 _ r1 r2).mono ?_; rintro e w7 ⟨rfl, hy⟩
  replace k1 := k1.step hy; (try clear k1_0 k1_f0 k1_1 k1_f1); have k1_0 := k1.cell 0; have k1_f0 := k1.frozen 0; have k1_1 := k1.cell 1; have k1_f1 := k1.frozen 1; simp only [List.set_cons_zero, List.set_cons_succ, List.getElem?_cons_zero, List.getElem?_cons_succ] at k1_0 k1_1; (try clear lt_k1); have lt_k1 := k1.lt
  replace r1 := r1.step hy
  replace r2 := r2.step hy
  replace r3 := r3.step hy
  replace hb : Below w.heap.size w w7 := hb.step hy
  clear hy S1
  go_wp2_with fail
  refine (Q1.out A3 c3 _ r3).mono ?_; rintro e w8 ⟨A6, c6, rfl, r6, hy⟩
  replace k1 := k1.step hy; (try clear k1_0 k1_f0 k1_1 k1_f1); have k1_0 := k1.cell 0; have k1_f0 := k1.frozen 0; have k1_1 := k1.cell 1; have k1_f1 := k1.frozen 1; simp only [List.set_cons_zero, List.set_cons_succ, List.getElem?_cons_zero, List.getElem?_cons_succ] at k1_0 k1_1; (try clear lt_k1); have lt_k1 := k1.lt
  replace r1 := r1.step hy
  replace r2 := r2.step hy
  replace r3 := r3.step hy
  replace hb : Below w.heap.size w w8 := hb.step hy
  clear hy Q1
  go_wp2_with fail
  generalize hV : World.alloc w8 _ = w9
  have hy : Below w8.heap.size w8 w9 := by subst hV; (repeat (first | with_reducible exact Below.refl _ _ | with_reducible assumption | with_reducible refine Below.drew ?_ | with_reducible refine Below.drewN ?_ _ | with_reducible refine Below.alloc1 ?_ _ | with_reducible refine Below.setCell1 ?_ (by first | omega | (simp; done) | (simp; omega)) _ | with_reducible refine Below.step ?_ (by with_reducible assumption)))
  have kn : Bk w9 w8.heap.size 3 [.int .i64 3, .int .i64 5] := by subst hV; (repeat (first | with_reducible exact Bk.new' _ _ _ _ (by simp; done) | with_reducible assumption | with_reducible refine Bk.alloc ?_ _ | with_reducible refine Bk.drew ?_ | with_reducible refine Bk.drewN ?_ _ | with_reducible refine Bk.step ?_ (by with_reducible assumption) | with_reducible refine Bk.far ?_ (by first | omega | (simp; done) | (simp; omega)) _))
  clear hV
  replace k1 := k1.step hy; (try clear k1_0 k1_f0 k1_1 k1_f1); have k1_0 := k1.cell 0; have k1_f0 := k1.frozen 0; have k1_1 := k1.cell 1; have k1_f1 := k1.frozen 1; simp only [List.set_cons_zero, List.set_cons_succ, List.getElem?_cons_zero, List.getElem?_cons_succ] at k1_0 k1_1; (try clear lt_k1); have lt_k1 := k1.lt
  replace r1 := r1.step hy
  replace r2 := r2.step hy
  replace r3 := r3.step hy
  replace r6 := r6.step hy
  replace hb : Below w.heap.size w w9 := hb.step hy
  have lt_kn := kn.lt
  clear hy
  have hq := SameInts_any A6 (some ⟨w8.heap.size, 0, none⟩) c6 2 (eSrcs aE2) [3, 5] w9 (by simp [aE2, eSrcs, maxLen]) r6 kn.rd
  rw [show decide (eSrcs aE2 = [3, 5]) = true from by kernel_rfl] at hq
  refine hq.mono ?_; rintro e wa ⟨rfl, hyq⟩; have hy := qt_below hyq; clear hyq hq
  replace k1 := k1.step hy; (try clear k1_0 k1_f0 k1_1 k1_f1); have k1_0 := k1.cell 0; have k1_f0 := k1.frozen 0; have k1_1 := k1.cell 1; have k1_f1 := k1.frozen 1; simp only [List.set_cons_zero, List.set_cons_succ, List.getElem?_cons_zero, List.getElem?_cons_succ] at k1_0 k1_1; (try clear lt_k1); have lt_k1 := k1.lt
  replace r1 := r1.step hy
  replace r2 := r2.step hy
  replace r3 := r3.step hy
  replace hb : Below w.heap.size w wa := hb.step hy
  clear hy
  go_wp2_with fail
  refine (L1.out A3 c3 _ r3).mono ?_; rintro e wb ⟨rfl, hy⟩
  replace k1 := k1.step hy; (try clear k1_0 k1_f0 k1_1 k1_f1); have k1_0 := k1.cell 0; have k1_f0 := k1.frozen 0; have k1_1 := k1.cell 1; have k1_f1 := k1.frozen 1; simp only [List.set_cons_zero, List.set_cons_succ, List.getElem?_cons_zero, List.getElem?_cons_succ] at k1_0 k1_1; (try clear lt_k1); have lt_k1 := k1.lt
  replace r1 := r1.step hy
  replace r2 := r2.step hy
  replace r3 := r3.step hy
  replace hb : Below w.heap.size w wb := hb.step hy
  clear hy L1
  go_wp2_with fail
  refine (L2.out A3 c3 _ r3).mono ?_; rintro e wd ⟨rfl, hy⟩
  replace k1 := k1.step hy; (try clear k1_0 k1_f0 k1_1 k1_f1); have k1_0 := k1.cell 0; have k1_f0 := k1.frozen 0; have k1_1 := k1.cell 1; have k1_f1 := k1.frozen 1; simp only [List.set_cons_zero, List.set_cons_succ, List.getElem?_cons_zero, List.getElem?_cons_succ] at k1_0 k1_1; (try clear lt_k1); have lt_k1 := k1.lt
  replace r1 := r1.step hy
  replace r2 := r2.step hy
  replace r3 := r3.step hy
  replace hb : Below w.heap.size w wd := hb.step hy
  clear hy L2
  go_wp2_with fail
  refine (W1.out A3 c3 _ r3).mono ?_; rintro e we ⟨rfl, hy⟩
  replace k1 := k1.step hy; (try clear k1_0 k1_f0 k1_1 k1_f1); have k1_0 := k1.cell 0; have k1_f0 := k1.frozen 0; have k1_1 := k1.cell 1; have k1_f1 := k1.frozen 1; simp only [List.set_cons_zero, List.set_cons_succ, List.getElem?_cons_zero, List.getElem?_cons_succ] at k1_0 k1_1; (try clear lt_k1); have lt_k1 := k1.lt
  replace r1 := r1.step hy
  replace r2 := r2.step hy
  replace r3 := r3.step hy
  replace hb : Below w.heap.size w we := hb.step hy
  clear hy W1
  go_wp2_with fail
  refine (K1.out A3 c3 _ r3).mono ?_; rintro e wf ⟨rfl, hy⟩
  replace k1 := k1.step hy; (try clear k1_0 k1_f0 k1_1 k1_f1); have k1_0 := k1.cell 0; have k1_f0 := k1.frozen 0; have k1_1 := k1.cell 1; have k1_f1 := k1.frozen 1; simp only [List.set_cons_zero, List.set_cons_succ, List.getElem?_cons_zero, List.getElem?_cons_succ] at k1_0 k1_1; (try clear lt_k1); have lt_k1 := k1.lt
  replace r1 := r1.step hy
  replace r2 := r2.step hy
  replace r3 := r3.step hy
  replace hb : Below w.heap.size w wf := hb.step hy
  clear hy K1
  go_wp2_with fail
  generalize hV : World.alloc wf _ = wg
  have hy : Below wf.heap.size wf wg := by subst hV; (repeat (first | with_reducible exact Below.refl _ _ | with_reducible assumption | with_reducible refine Below.drew ?_ | with_reducible refine Below.drewN ?_ _ | with_reducible refine Below.alloc1 ?_ _ | with_reducible refine Below.setCell1 ?_ (by first | omega | (simp; done) | (simp; omega)) _ | with_reducible refine Below.step ?_ (by with_reducible assumption)))
  have km : Bk wg wf.heap.size 64 [.int .i64 (-1), .int .i64 0, .int .i64 0] := by subst hV; (repeat (first | with_reducible exact Bk.new' _ _ _ _ (by simp; done) | with_reducible assumption | with_reducible refine Bk.alloc ?_ _ | with_reducible refine Bk.drew ?_ | with_reducible refine Bk.drewN ?_ _ | with_reducible refine Bk.step ?_ (by with_reducible assumption) | with_reducible refine Bk.far ?_ (by first | omega | (simp; done) | (simp; omega)) _))
  clear hV
  replace k1 := k1.step hy; (try clear k1_0 k1_f0 k1_1 k1_f1); have k1_0 := k1.cell 0; have k1_f0 := k1.frozen 0; have k1_1 := k1.cell 1; have k1_f1 := k1.frozen 1; simp only [List.set_cons_zero, List.set_cons_succ, List.getElem?_cons_zero, List.getElem?_cons_succ] at k1_0 k1_1; (try clear lt_k1); have lt_k1 := k1.lt
  replace r1 := r1.step hy
  replace r2 := r2.step hy
  replace r3 := r3.step hy
  replace hb : Below w.heap.size w wg := hb.step hy
  have lt_km := km.lt
  clear hy
  refine (K2.out _ 1 _ km.rd).mono ?_; rintro e wh ⟨rfl, hy⟩
  replace k1 := k1.step hy; (try clear k1_0 k1_f0 k1_1 k1_f1); have k1_0 := k1.cell 0; have k1_f0 := k1.frozen 0; have k1_1 := k1.cell 1; have k1_f1 := k1.frozen 1; simp only [List.set_cons_zero, List.set_cons_succ, List.getElem?_cons_zero, List.getElem?_cons_succ] at k1_0 k1_1; (try clear lt_k1); have lt_k1 := k1.lt; replace km := km.step hy; (try clear lt_km); have lt_km := km.lt
  replace r1 := r1.step hy
  replace r2 := r2.step hy
  replace r3 := r3.step hy
  replace hb : Below w.heap.size w wh := hb.step hy
  clear hy K2
  go_wp2_with fail
  refine (S2.out A1 A3 c1 c3 _ r1 r3).mono ?_; rintro e wi ⟨rfl, hy⟩
  replace k1 := k1.step hy; (try clear k1_0 k1_f0 k1_1 k1_f1); have k1_0 := k1.cell 0; have k1_f0 := k1.frozen 0; have k1_1 := k1.cell 1; have k1_f1 := k1.frozen 1; simp only [List.set_cons_zero, List.set_cons_succ, List.getElem?_cons_zero, List.getElem?_cons_succ] at k1_0 k1_1; (try clear lt_k1); have lt_k1 := k1.lt; replace km := km.step hy; (try clear lt_km); have lt_km := km.lt
  replace r1 := r1.step hy
  replace r2 := r2.step hy
  replace r3 := r3.step hy
  replace hb : Below w.heap.size w wi := hb.step hy
  clear hy S2
  go_wp2
  go_ret
  exact ⟨rfl, hb⟩
end Go.Proofs.Ytpjepaaaanajhaa
