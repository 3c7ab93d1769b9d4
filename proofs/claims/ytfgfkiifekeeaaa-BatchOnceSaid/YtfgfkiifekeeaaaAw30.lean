/- callboylaw30.awake answers true. -/
import Derived.Test.YtfgfkiifekeeaaaRb7
namespace Go.Proofs.Ytfgfkiifekeeaaa
open Go.RowKit Go.Shelf Go.Sort
set_option linter.unusedSimpArgs false
set_option linter.unusedVariables false

/-- the same, with fuel: to be reckoned at closed texts -/
def uScanF : Nat → List UInt8 → List (Int × Nat)
  | 0, _ => []
  | n + 1, s => if s = [] then [] else uNext s :: uScanF n (s.drop (uNext s).2)
theorem uScan_fuel (n : Nat) : ∀ s : List UInt8, s.length ≤ n → uScan s = uScanF n s := by
  induction n with
  | zero =>
    intro s h
    obtain rfl : s = [] := List.eq_nil_of_length_eq_zero (by omega)
    rw [uScan_nil]; rfl
  | succ n ih =>
    intro s h
    unfold uScanF
    by_cases hs : s = []
    · rw [if_pos hs, hs, uScan_nil]
    · rw [if_neg hs, uScan_cons s hs, ih _ (by have := drop_lt s hs; omega)]
def plF (s : List UInt8) : Bool := (uScanF s.length s).all fun x => !uCtl x.1
theorem plF_eq (s : List UInt8) : uPlain s = plF s := by
  unfold uPlain plF
  rw [uScan_fuel s.length s (Nat.le_refl _)]

abbrev q1 : Pb := ⟨⟨#[97, 64, 120, 32]⟩, ⟨#[99, 64, 121]⟩⟩
abbrev q2 : Pb := ⟨⟨#[98, 64, 120, 32]⟩, ⟨#[99, 64, 121]⟩⟩
abbrev q3 : Pb := ⟨⟨#[97, 64, 120]⟩, ⟨#[99, 64, 121]⟩⟩
theorem fine_q1 : bFine q1 = true := by unfold bFine sSplit aIsBare aBare aParse aCheck aName aRes; simp only [plF_eq]; decide +kernel
theorem fine_q2 : bFine q2 = true := by unfold bFine sSplit aIsBare aBare aParse aCheck aName aRes; simp only [plF_eq]; decide +kernel
theorem fine_q3 : bFine q3 = false := by unfold bFine sSplit aIsBare aBare aParse aCheck aName aRes; simp only [plF_eq]; decide +kernel
theorem ck0 : bCheck ⟨[], 0, 0⟩ = 0 := bCheck_of (by decide) (by decide) (by decide) (by decide) (by decide)
theorem ck1 : bCheck ⟨[q1], 0, 0⟩ = 0 := bCheck_of (by decide) (by simp [fine_q1]) (by decide) (by decide) (by decide)
theorem ck2 : bCheck ⟨[q1], 0, 1⟩ = 0 := bCheck_of (by decide) (by simp [fine_q1]) (by decide) (by decide) (by decide)
theorem ck3 : bCheck ⟨[q1, q2], 0, 1⟩ = 0 := bCheck_of (by decide) (by simp [fine_q1, fine_q2]) (by decide) (by decide) (by decide)
theorem ck4 : bCheck ⟨[], -1, 0⟩ = 8 := by decide
theorem pt1 : bPut ⟨[], 0, 0⟩ q1 = (⟨[q1], 0, 0⟩, 0) := by unfold bPut; rw [ck0, fine_q1]; decide
theorem pt2 : bPut ⟨[q1], 0, 0⟩ q1 = (⟨[q1], 0, 1⟩, 0) := by unfold bPut; rw [ck1, fine_q1]; decide
theorem pt3 : bPut ⟨[q1], 0, 1⟩ q2 = (⟨[q1, q2], 0, 1⟩, 0) := by unfold bPut; rw [ck2, fine_q2]; decide
theorem pt5 : bPut ⟨[q1, q2], 0, 1⟩ q3 = (⟨[q1, q2], 0, 1⟩, 11) := by unfold bPut; rw [ck3, fine_q3]; decide
theorem tk4 : bTake ⟨[q1, q2], 0, 1⟩ 1 = (⟨[q2], 1, 1⟩, [q1]) := by unfold bTake; rw [ck3]; decide
theorem fg6 : bForget ⟨[q1, q2], 0, 1⟩ ⟨#[98, 64, 120, 32]⟩ = ⟨[q1], 0, 1⟩ := by unfold bForget; rw [ck3]; decide
theorem us7 : bUsers [q1, q2] = [⟨#[99, 64, 121]⟩] := by decide
theorem rd8 : bRounds ⟨[q1, q2], 0, 1⟩ 1 = 2 := by unfold bRounds; rw [ck3]; decide
theorem rd9 : bRounds ⟨[q1, q2], 0, 1⟩ 0 = -1 := by unfold bRounds; rw [ck3]; decide
theorem sm_q (x : Pb) (h : x ∈ [q1, q2]) : Sm x := by simp at h; rcases h with rfl | rfl <;> decide
theorem sm_1 (x : Pb) (h : x ∈ [q1]) : Sm x := sm_q x (by simp at h; simp [h])

theorem aw1 (A : Option Addr) (c : Nat) (W : World) (hc : 0 ≤ c) (hm : MW W) (hr : Rd W W.heap.size A (pbs [])) : Calls Try.prog 10 #[.agg #[.slice A 0 c, .int .i64 0, .int .i64 0], .string ⟨#[97, 64, 120, 32]⟩, .string ⟨#[99, 64, 121]⟩] W fun e w' =>
    ∃ B d, e = .returned (.tuple #[.agg #[.slice B 1 d, .int .i64 0, .int .i64 0], .int .i64 0]) ∧ 1 ≤ d ∧ Rd w' w'.heap.size B (pbs [q1]) ∧ Below W.heap.size W w' := by
  have h := batch_Put_any A c [] 0 0 ⟨#[97, 64, 120, 32]⟩ ⟨#[99, 64, 121]⟩ W (by decide) hc (fun x h => by cases h) (by decide) hm hr
  rw [pt1] at h
  exact h.mono fun _ _ ⟨V, he, ⟨B, d, hv, hd, hr⟩, hb⟩ => ⟨B, d, by rw [he, hv]; rfl, hd, hr, hb⟩
theorem aw2 (A : Option Addr) (c : Nat) (W : World) (hc : 1 ≤ c) (hm : MW W) (hr : Rd W W.heap.size A (pbs [q1])) : Calls Try.prog 10 #[.agg #[.slice A 1 c, .int .i64 0, .int .i64 0], .string ⟨#[97, 64, 120, 32]⟩, .string ⟨#[99, 64, 121]⟩] W fun e w' =>
    ∃ B d, e = .returned (.tuple #[.agg #[.slice B 1 d, .int .i64 0, .int .i64 1], .int .i64 0]) ∧ 1 ≤ d ∧ Rd w' w'.heap.size B (pbs [q1]) ∧ Below W.heap.size W w' := by
  have h := batch_Put_any A c [q1] 0 0 ⟨#[97, 64, 120, 32]⟩ ⟨#[99, 64, 121]⟩ W (by decide) hc sm_1 (by decide) hm hr
  rw [pt2] at h
  exact h.mono fun _ _ ⟨V, he, ⟨B, d, hv, hd, hr⟩, hb⟩ => ⟨B, d, by rw [he, hv]; rfl, hd, hr, hb⟩
theorem aw3 (A : Option Addr) (c : Nat) (W : World) (hc : 1 ≤ c) (hm : MW W) (hr : Rd W W.heap.size A (pbs [q1])) : Calls Try.prog 10 #[.agg #[.slice A 1 c, .int .i64 0, .int .i64 1], .string ⟨#[98, 64, 120, 32]⟩, .string ⟨#[99, 64, 121]⟩] W fun e w' =>
    ∃ B d, e = .returned (.tuple #[.agg #[.slice B 2 d, .int .i64 0, .int .i64 1], .int .i64 0]) ∧ 2 ≤ d ∧ Rd w' w'.heap.size B (pbs [q1, q2]) ∧ Below W.heap.size W w' := by
  have h := batch_Put_any A c [q1] 0 1 ⟨#[98, 64, 120, 32]⟩ ⟨#[99, 64, 121]⟩ W (by decide) hc sm_1 (by decide) hm hr
  rw [pt3] at h
  exact h.mono fun _ _ ⟨V, he, ⟨B, d, hv, hd, hr⟩, hb⟩ => ⟨B, d, by rw [he, hv]; rfl, hd, hr, hb⟩
theorem aw5 (A : Option Addr) (c : Nat) (W : World) (hc : 2 ≤ c) (hm : MW W) (hr : Rd W W.heap.size A (pbs [q1, q2])) : Calls Try.prog 10 #[.agg #[.slice A 2 c, .int .i64 0, .int .i64 1], .string ⟨#[97, 64, 120]⟩, .string ⟨#[99, 64, 121]⟩] W fun e w' =>
    ∃ B d, e = .returned (.tuple #[.agg #[.slice B 2 d, .int .i64 0, .int .i64 1], .int .i64 11]) ∧ 2 ≤ d ∧ Rd w' w'.heap.size B (pbs [q1, q2]) ∧ Below W.heap.size W w' := by
  have h := batch_Put_any A c [q1, q2] 0 1 ⟨#[97, 64, 120]⟩ ⟨#[99, 64, 121]⟩ W (by decide) hc sm_q (by decide) hm hr
  rw [pt5] at h
  exact h.mono fun _ _ ⟨V, he, ⟨B, d, hv, hd, hr⟩, hb⟩ => ⟨B, d, by rw [he, hv]; rfl, hd, hr, hb⟩
theorem aw4 (A : Option Addr) (c : Nat) (W : World) (hc : 2 ≤ c) (hm : MW W) (hr : Rd W W.heap.size A (pbs [q1, q2])) : Calls Try.prog 12 #[.agg #[.slice A 2 c, .int .i64 0, .int .i64 1], .int .i64 1] W fun e w' =>
    ∃ B d E f, e = .returned (.tuple #[.agg #[.slice B 1 d, .int .i64 1, .int .i64 1], .slice E 1 f]) ∧ Rd w' w'.heap.size B (pbs [q2]) ∧ Rd w' w'.heap.size E (pbs [q1]) ∧ Below W.heap.size W w' := by
  have h := batch_Take_any A c [q1, q2] 0 1 1 W (by decide) hc sm_q hm hr
  rw [tk4] at h
  exact h.mono fun _ _ ⟨V, E, f, he, ⟨B, d, hv, hd, hr⟩, hf, hr2, hb⟩ => ⟨B, d, E, f, by rw [he, hv]; rfl, hr, hr2, hb⟩
theorem aw6 (A : Option Addr) (c : Nat) (W : World) (hc : 2 ≤ c) (hm : MW W) (hr : Rd W W.heap.size A (pbs [q1, q2])) : Calls Try.prog 18 #[.agg #[.slice A 2 c, .int .i64 0, .int .i64 1], .string ⟨#[98, 64, 120, 32]⟩] W fun e w' =>
    ∃ B d, e = .returned (.agg #[.slice B 1 d, .int .i64 0, .int .i64 1]) ∧ Rd w' w'.heap.size B (pbs [q1]) ∧ Below W.heap.size W w' := by
  have h := batch_Forget_any A c [q1, q2] 0 1 ⟨#[98, 64, 120, 32]⟩ W (by decide) hc sm_q hm hr
  rw [fg6] at h
  exact h.mono fun _ _ ⟨V, he, ⟨B, d, hv, hd, hr⟩, hb⟩ => ⟨B, d, by rw [he, hv]; rfl, hr, hb⟩
theorem aw7 (A : Option Addr) (c : Nat) (W : World) (hr : Rd W W.heap.size A (pbs [q1, q2])) : Calls Try.prog 23 #[.agg #[.slice A 2 c, .int .i64 0, .int .i64 1]] W fun e w' =>
    ∃ B d, e = .returned (.slice B 1 d) ∧ Rd w' w'.heap.size B (txts [⟨#[99, 64, 121]⟩]) ∧ Below W.heap.size W w' := by
  have h := batch_Users_any A c [q1, q2] 0 1 W (by decide) hr
  rw [us7] at h
  exact h.mono fun _ _ ⟨B, d, he, hr, hb⟩ => ⟨B, d, by rw [he]; rfl, hr, hb⟩
theorem aw8 (n : Int) (A : Option Addr) (c : Nat) (W : World) (r : Int) (he : bRounds ⟨[q1, q2], 0, 1⟩ n = r) (hc : 2 ≤ c) (hm : MW W) (hr : Rd W W.heap.size A (pbs [q1, q2])) : Calls Try.prog 25 #[.agg #[.slice A 2 c, .int .i64 0, .int .i64 1], .int .i64 n] W fun e w' =>
    e = .returned (.int .i64 r) ∧ Below W.heap.size W w' := by
  subst he
  exact batch_Rounds_any A c [q1, q2] 0 1 n W (by decide) hc sm_q hm hr
theorem aw10 (A : Option Addr) (c : Nat) (W : World) (hc : 2 ≤ c) (hm : MW W) (hr : Rd W W.heap.size A (pbs [q1, q2])) : Calls Try.prog 20 #[.agg #[.slice A 2 c, .int .i64 0, .int .i64 1]] W fun e w' =>
    e = .returned (.int .i64 0) ∧ Below W.heap.size W w' := by
  have h := batch_Check_any A c [q1, q2] 0 1 W (by decide) hc sm_q hm hr
  rw [ck3] at h
  exact h
theorem aw11 (W : World) (hm : MW W) : Calls Try.prog 20 #[.agg #[.slice none 0 0, .int .i64 (-1), .int .i64 0]] W fun e w' => e = .returned (.int .i64 8) ∧ Below W.heap.size W w' := by
  have h := batch_Check_any none 0 [] (-1) 0 W (by decide) (by decide) (fun x h => by cases h) hm Rd.nil
  rw [ck4] at h
  exact h
theorem aw12 (A B : Option Addr) (c d : Nat) (W : World) (hr : Rd W W.heap.size A (pbs [q1, q2])) (hr2 : Rd W W.heap.size B (pbs [q2])) : Calls Try.prog 27 #[.agg #[.slice A 2 c, .int .i64 0, .int .i64 1], .agg #[.slice B 1 d, .int .i64 1, .int .i64 1]] W fun e w' => e = .returned (.bool false) ∧ Below W.heap.size W w' := by
  have h := batch_Same_any A B c d [q1, q2] [q2] 0 1 1 1 W (by decide) hr hr2
  rw [show decide ((⟨[q1, q2], 0, 1⟩ : Bs) = ⟨[q2], 1, 1⟩) = false by decide] at h
  exact h
theorem aw13 (A B : Option Addr) (c d : Nat) (W : World) (hr : Rd W W.heap.size A (pbs [q1])) (hr2 : Rd W W.heap.size B (pbs [q1])) : Calls Try.prog 27 #[.agg #[.slice A 1 c, .int .i64 0, .int .i64 1], .agg #[.slice B 1 d, .int .i64 0, .int .i64 1]] W fun e w' => e = .returned (.bool true) ∧ Below W.heap.size W w' := by
  have h := batch_Same_any A B c d [q1] [q1] 0 1 0 1 W (by decide) hr hr2
  rw [decide_eq_true rfl] at h
  exact h
theorem aw14 (A B : Option Addr) (c d : Nat) (W : World) (hr : Rd W W.heap.size A (txts [⟨#[99, 64, 121]⟩])) (hr2 : Rd W W.heap.size B (txts [⟨#[99, 64, 121]⟩])) : Calls Try.prog 22 #[.slice A 1 c, .slice B 1 d] W fun e w' => e = .returned (.bool true) ∧ ∃ n, W.drewN n = w' := by
  have h := SameTexts_any A B c d [⟨#[99, 64, 121]⟩] [⟨#[99, 64, 121]⟩] W (by decide) hr hr2
  rw [decide_eq_true rfl] at h
  exact h
set_option maxRecDepth 1000000 in
set_option maxHeartbeats 8000000 in
theorem awake30 (w : World) (hm : MW w) : Calls Try.prog 8 #[] w fun e w' => e = .returned (.bool true) ∧ Below w.heap.size w w' := by
  have hE := (pb_eq q1 q1 true (by simp)).1
  have hb : Below w.heap.size w w := Below.refl _ _
  go_enter Try.func8, Try.ntmps8
  go_wp2_with fail
  refine (aw1 none 0 _ (Nat.le_refl _) hm Rd.nil).mono ?_; rintro e v1 ⟨A1, c1, rfl, i1, r1, hx⟩
  replace hb := hb.step hx
  replace hm := hm.step hx
  clear hx
  go_wp2_with fail
  generalize hV : World.alloc v1 _ = v2
  have hx : Below v1.heap.size v1 v2 := by subst hV; (repeat (first | with_reducible exact Below.refl _ _ | with_reducible assumption | with_reducible refine Below.drew ?_ | with_reducible refine Below.drewN ?_ _ | with_reducible refine Below.alloc1 ?_ _ | with_reducible refine Below.setCell1 ?_ (by first | omega | (simp; done) | (simp; omega)) _ | with_reducible refine Below.step ?_ (by with_reducible assumption)))
  have kA : Bk v2 v1.heap.size 31 [.slice A1 1 c1, .int .i64 0, .int .i64 0] := by subst hV; exact Bk.new v1 _ _
  clear hV
  replace hb := hb.step hx
  replace hm := hm.step hx
  replace r1 := r1.step hx
  clear hx
  have kA_0 := kA.cell 0; have kA_f0 := kA.frozen 0; have kA_1 := kA.cell 1; have kA_f1 := kA.frozen 1; have kA_2 := kA.cell 2; have kA_f2 := kA.frozen 2; simp only [List.set_cons_zero, List.set_cons_succ, List.getElem?_cons_zero, List.getElem?_cons_succ] at kA_0 kA_1 kA_2; have lt_kA := kA.lt
  go_wp2_with fail
  refine (aw2 A1 c1 _ i1 hm r1).mono ?_; rintro e v3 ⟨A2, c2, rfl, i2, r2, hx⟩
  replace hb := hb.step hx
  replace hm := hm.step hx
  replace r1 := r1.step hx
  replace kA := kA.step hx; (try clear kA_0 kA_f0 kA_1 kA_f1 kA_2 kA_f2); have kA_0 := kA.cell 0; have kA_f0 := kA.frozen 0; have kA_1 := kA.cell 1; have kA_f1 := kA.frozen 1; have kA_2 := kA.cell 2; have kA_f2 := kA.frozen 2; simp only [List.set_cons_zero, List.set_cons_succ, List.getElem?_cons_zero, List.getElem?_cons_succ] at kA_0 kA_1 kA_2; (try clear lt_kA); have lt_kA := kA.lt
  clear hx
  go_wp2_with fail
  generalize hV : World.alloc v3 _ = v4
  have hx : Below v3.heap.size v3 v4 := by subst hV; (repeat (first | with_reducible exact Below.refl _ _ | with_reducible assumption | with_reducible refine Below.drew ?_ | with_reducible refine Below.drewN ?_ _ | with_reducible refine Below.alloc1 ?_ _ | with_reducible refine Below.setCell1 ?_ (by first | omega | (simp; done) | (simp; omega)) _ | with_reducible refine Below.step ?_ (by with_reducible assumption)))
  have kB : Bk v4 v3.heap.size 31 [.slice A2 1 c2, .int .i64 0, .int .i64 1] := by subst hV; exact Bk.new v3 _ _
  clear hV
  replace hb := hb.step hx
  replace hm := hm.step hx
  replace r1 := r1.step hx
  replace r2 := r2.step hx
  replace kA := kA.step hx; (try clear kA_0 kA_f0 kA_1 kA_f1 kA_2 kA_f2); have kA_0 := kA.cell 0; have kA_f0 := kA.frozen 0; have kA_1 := kA.cell 1; have kA_f1 := kA.frozen 1; have kA_2 := kA.cell 2; have kA_f2 := kA.frozen 2; simp only [List.set_cons_zero, List.set_cons_succ, List.getElem?_cons_zero, List.getElem?_cons_succ] at kA_0 kA_1 kA_2; (try clear lt_kA); have lt_kA := kA.lt
  clear hx
  have kB_0 := kB.cell 0; have kB_f0 := kB.frozen 0; have kB_1 := kB.cell 1; have kB_f1 := kB.frozen 1; have kB_2 := kB.cell 2; have kB_f2 := kB.frozen 2; simp only [List.set_cons_zero, List.set_cons_succ, List.getElem?_cons_zero, List.getElem?_cons_succ] at kB_0 kB_1 kB_2; have lt_kB := kB.lt
  go_wp2_with fail
  refine (aw3 A2 c2 _ i2 hm r2).mono ?_; rintro e v5 ⟨A3, c3, rfl, i3, r3, hx⟩
  replace hb := hb.step hx
  replace hm := hm.step hx
  replace r1 := r1.step hx
  replace r2 := r2.step hx
  replace kA := kA.step hx; (try clear kA_0 kA_f0 kA_1 kA_f1 kA_2 kA_f2); have kA_0 := kA.cell 0; have kA_f0 := kA.frozen 0; have kA_1 := kA.cell 1; have kA_f1 := kA.frozen 1; have kA_2 := kA.cell 2; have kA_f2 := kA.frozen 2; simp only [List.set_cons_zero, List.set_cons_succ, List.getElem?_cons_zero, List.getElem?_cons_succ] at kA_0 kA_1 kA_2; (try clear lt_kA); have lt_kA := kA.lt; replace kB := kB.step hx; (try clear kB_0 kB_f0 kB_1 kB_f1 kB_2 kB_f2); have kB_0 := kB.cell 0; have kB_f0 := kB.frozen 0; have kB_1 := kB.cell 1; have kB_f1 := kB.frozen 1; have kB_2 := kB.cell 2; have kB_f2 := kB.frozen 2; simp only [List.set_cons_zero, List.set_cons_succ, List.getElem?_cons_zero, List.getElem?_cons_succ] at kB_0 kB_1 kB_2; (try clear lt_kB); have lt_kB := kB.lt
  clear hx
  go_wp2_with fail
  generalize hV : World.alloc v5 _ = v6
  have hx : Below v5.heap.size v5 v6 := by subst hV; (repeat (first | with_reducible exact Below.refl _ _ | with_reducible assumption | with_reducible refine Below.drew ?_ | with_reducible refine Below.drewN ?_ _ | with_reducible refine Below.alloc1 ?_ _ | with_reducible refine Below.setCell1 ?_ (by first | omega | (simp; done) | (simp; omega)) _ | with_reducible refine Below.step ?_ (by with_reducible assumption)))
  have kC : Bk v6 v5.heap.size 31 [.slice A3 2 c3, .int .i64 0, .int .i64 1] := by subst hV; exact Bk.new v5 _ _
  clear hV
  replace hb := hb.step hx
  replace hm := hm.step hx
  replace r1 := r1.step hx
  replace r2 := r2.step hx
  replace r3 := r3.step hx
  replace kA := kA.step hx; (try clear kA_0 kA_f0 kA_1 kA_f1 kA_2 kA_f2); have kA_0 := kA.cell 0; have kA_f0 := kA.frozen 0; have kA_1 := kA.cell 1; have kA_f1 := kA.frozen 1; have kA_2 := kA.cell 2; have kA_f2 := kA.frozen 2; simp only [List.set_cons_zero, List.set_cons_succ, List.getElem?_cons_zero, List.getElem?_cons_succ] at kA_0 kA_1 kA_2; (try clear lt_kA); have lt_kA := kA.lt; replace kB := kB.step hx; (try clear kB_0 kB_f0 kB_1 kB_f1 kB_2 kB_f2); have kB_0 := kB.cell 0; have kB_f0 := kB.frozen 0; have kB_1 := kB.cell 1; have kB_f1 := kB.frozen 1; have kB_2 := kB.cell 2; have kB_f2 := kB.frozen 2; simp only [List.set_cons_zero, List.set_cons_succ, List.getElem?_cons_zero, List.getElem?_cons_succ] at kB_0 kB_1 kB_2; (try clear lt_kB); have lt_kB := kB.lt
  clear hx
  have kC_0 := kC.cell 0; have kC_f0 := kC.frozen 0; have kC_1 := kC.cell 1; have kC_f1 := kC.frozen 1; have kC_2 := kC.cell 2; have kC_f2 := kC.frozen 2; simp only [List.set_cons_zero, List.set_cons_succ, List.getElem?_cons_zero, List.getElem?_cons_succ] at kC_0 kC_1 kC_2; have lt_kC := kC.lt
  go_wp2_with fail
  refine (aw4 A3 c3 _ i3 hm r3).mono ?_; rintro e v7 ⟨A4, c4, A5, c5, rfl, r4, r5, hx⟩
  replace hb := hb.step hx
  replace hm := hm.step hx
  replace r1 := r1.step hx
  replace r2 := r2.step hx
  replace r3 := r3.step hx
  replace kA := kA.step hx; (try clear kA_0 kA_f0 kA_1 kA_f1 kA_2 kA_f2); have kA_0 := kA.cell 0; have kA_f0 := kA.frozen 0; have kA_1 := kA.cell 1; have kA_f1 := kA.frozen 1; have kA_2 := kA.cell 2; have kA_f2 := kA.frozen 2; simp only [List.set_cons_zero, List.set_cons_succ, List.getElem?_cons_zero, List.getElem?_cons_succ] at kA_0 kA_1 kA_2; (try clear lt_kA); have lt_kA := kA.lt; replace kB := kB.step hx; (try clear kB_0 kB_f0 kB_1 kB_f1 kB_2 kB_f2); have kB_0 := kB.cell 0; have kB_f0 := kB.frozen 0; have kB_1 := kB.cell 1; have kB_f1 := kB.frozen 1; have kB_2 := kB.cell 2; have kB_f2 := kB.frozen 2; simp only [List.set_cons_zero, List.set_cons_succ, List.getElem?_cons_zero, List.getElem?_cons_succ] at kB_0 kB_1 kB_2; (try clear lt_kB); have lt_kB := kB.lt; replace kC := kC.step hx; (try clear kC_0 kC_f0 kC_1 kC_f1 kC_2 kC_f2); have kC_0 := kC.cell 0; have kC_f0 := kC.frozen 0; have kC_1 := kC.cell 1; have kC_f1 := kC.frozen 1; have kC_2 := kC.cell 2; have kC_f2 := kC.frozen 2; simp only [List.set_cons_zero, List.set_cons_succ, List.getElem?_cons_zero, List.getElem?_cons_succ] at kC_0 kC_1 kC_2; (try clear lt_kC); have lt_kC := kC.lt
  clear hx
  go_wp2_with fail
  generalize hV : World.alloc v7 _ = v8
  have hx : Below v7.heap.size v7 v8 := by subst hV; (repeat (first | with_reducible exact Below.refl _ _ | with_reducible assumption | with_reducible refine Below.drew ?_ | with_reducible refine Below.drewN ?_ _ | with_reducible refine Below.alloc1 ?_ _ | with_reducible refine Below.setCell1 ?_ (by first | omega | (simp; done) | (simp; omega)) _ | with_reducible refine Below.step ?_ (by with_reducible assumption)))
  have kD : Bk v8 v7.heap.size 31 [.slice A4 1 c4, .int .i64 1, .int .i64 1] := by subst hV; exact Bk.new v7 _ _
  clear hV
  replace hb := hb.step hx
  replace hm := hm.step hx
  replace r1 := r1.step hx
  replace r2 := r2.step hx
  replace r3 := r3.step hx
  replace r4 := r4.step hx
  replace r5 := r5.step hx
  replace kA := kA.step hx; (try clear kA_0 kA_f0 kA_1 kA_f1 kA_2 kA_f2); have kA_0 := kA.cell 0; have kA_f0 := kA.frozen 0; have kA_1 := kA.cell 1; have kA_f1 := kA.frozen 1; have kA_2 := kA.cell 2; have kA_f2 := kA.frozen 2; simp only [List.set_cons_zero, List.set_cons_succ, List.getElem?_cons_zero, List.getElem?_cons_succ] at kA_0 kA_1 kA_2; (try clear lt_kA); have lt_kA := kA.lt; replace kB := kB.step hx; (try clear kB_0 kB_f0 kB_1 kB_f1 kB_2 kB_f2); have kB_0 := kB.cell 0; have kB_f0 := kB.frozen 0; have kB_1 := kB.cell 1; have kB_f1 := kB.frozen 1; have kB_2 := kB.cell 2; have kB_f2 := kB.frozen 2; simp only [List.set_cons_zero, List.set_cons_succ, List.getElem?_cons_zero, List.getElem?_cons_succ] at kB_0 kB_1 kB_2; (try clear lt_kB); have lt_kB := kB.lt; replace kC := kC.step hx; (try clear kC_0 kC_f0 kC_1 kC_f1 kC_2 kC_f2); have kC_0 := kC.cell 0; have kC_f0 := kC.frozen 0; have kC_1 := kC.cell 1; have kC_f1 := kC.frozen 1; have kC_2 := kC.cell 2; have kC_f2 := kC.frozen 2; simp only [List.set_cons_zero, List.set_cons_succ, List.getElem?_cons_zero, List.getElem?_cons_succ] at kC_0 kC_1 kC_2; (try clear lt_kC); have lt_kC := kC.lt
  clear hx
  have kD_0 := kD.cell 0; have kD_f0 := kD.frozen 0; have kD_1 := kD.cell 1; have kD_f1 := kD.frozen 1; have kD_2 := kD.cell 2; have kD_f2 := kD.frozen 2; simp only [List.set_cons_zero, List.set_cons_succ, List.getElem?_cons_zero, List.getElem?_cons_succ] at kD_0 kD_1 kD_2; have lt_kD := kD.lt
  go_wp2_with fail
  refine (aw5 A3 c3 _ i3 hm r3).mono ?_; rintro e v9 ⟨A6, c6, rfl, i6, r6, hx⟩
  replace hb := hb.step hx
  replace hm := hm.step hx
  replace r1 := r1.step hx
  replace r2 := r2.step hx
  replace r3 := r3.step hx
  replace r4 := r4.step hx
  replace r5 := r5.step hx
  replace kA := kA.step hx; (try clear kA_0 kA_f0 kA_1 kA_f1 kA_2 kA_f2); have kA_0 := kA.cell 0; have kA_f0 := kA.frozen 0; have kA_1 := kA.cell 1; have kA_f1 := kA.frozen 1; have kA_2 := kA.cell 2; have kA_f2 := kA.frozen 2; simp only [List.set_cons_zero, List.set_cons_succ, List.getElem?_cons_zero, List.getElem?_cons_succ] at kA_0 kA_1 kA_2; (try clear lt_kA); have lt_kA := kA.lt; replace kB := kB.step hx; (try clear kB_0 kB_f0 kB_1 kB_f1 kB_2 kB_f2); have kB_0 := kB.cell 0; have kB_f0 := kB.frozen 0; have kB_1 := kB.cell 1; have kB_f1 := kB.frozen 1; have kB_2 := kB.cell 2; have kB_f2 := kB.frozen 2; simp only [List.set_cons_zero, List.set_cons_succ, List.getElem?_cons_zero, List.getElem?_cons_succ] at kB_0 kB_1 kB_2; (try clear lt_kB); have lt_kB := kB.lt; replace kC := kC.step hx; (try clear kC_0 kC_f0 kC_1 kC_f1 kC_2 kC_f2); have kC_0 := kC.cell 0; have kC_f0 := kC.frozen 0; have kC_1 := kC.cell 1; have kC_f1 := kC.frozen 1; have kC_2 := kC.cell 2; have kC_f2 := kC.frozen 2; simp only [List.set_cons_zero, List.set_cons_succ, List.getElem?_cons_zero, List.getElem?_cons_succ] at kC_0 kC_1 kC_2; (try clear lt_kC); have lt_kC := kC.lt; replace kD := kD.step hx; (try clear kD_0 kD_f0 kD_1 kD_f1 kD_2 kD_f2); have kD_0 := kD.cell 0; have kD_f0 := kD.frozen 0; have kD_1 := kD.cell 1; have kD_f1 := kD.frozen 1; have kD_2 := kD.cell 2; have kD_f2 := kD.frozen 2; simp only [List.set_cons_zero, List.set_cons_succ, List.getElem?_cons_zero, List.getElem?_cons_succ] at kD_0 kD_1 kD_2; (try clear lt_kD); have lt_kD := kD.lt
  clear hx
  go_wp2_with fail
  generalize hV : World.alloc v9 _ = v10
  have hx : Below v9.heap.size v9 v10 := by subst hV; (repeat (first | with_reducible exact Below.refl _ _ | with_reducible assumption | with_reducible refine Below.drew ?_ | with_reducible refine Below.drewN ?_ _ | with_reducible refine Below.alloc1 ?_ _ | with_reducible refine Below.setCell1 ?_ (by first | omega | (simp; done) | (simp; omega)) _ | with_reducible refine Below.step ?_ (by with_reducible assumption)))
  have kE : Bk v10 v9.heap.size 31 [.slice A6 2 c6, .int .i64 0, .int .i64 1] := by subst hV; exact Bk.new v9 _ _
  clear hV
  replace hb := hb.step hx
  replace hm := hm.step hx
  replace r1 := r1.step hx
  replace r2 := r2.step hx
  replace r3 := r3.step hx
  replace r4 := r4.step hx
  replace r5 := r5.step hx
  replace kA := kA.step hx; (try clear kA_0 kA_f0 kA_1 kA_f1 kA_2 kA_f2); have kA_0 := kA.cell 0; have kA_f0 := kA.frozen 0; have kA_1 := kA.cell 1; have kA_f1 := kA.frozen 1; have kA_2 := kA.cell 2; have kA_f2 := kA.frozen 2; simp only [List.set_cons_zero, List.set_cons_succ, List.getElem?_cons_zero, List.getElem?_cons_succ] at kA_0 kA_1 kA_2; (try clear lt_kA); have lt_kA := kA.lt; replace kB := kB.step hx; (try clear kB_0 kB_f0 kB_1 kB_f1 kB_2 kB_f2); have kB_0 := kB.cell 0; have kB_f0 := kB.frozen 0; have kB_1 := kB.cell 1; have kB_f1 := kB.frozen 1; have kB_2 := kB.cell 2; have kB_f2 := kB.frozen 2; simp only [List.set_cons_zero, List.set_cons_succ, List.getElem?_cons_zero, List.getElem?_cons_succ] at kB_0 kB_1 kB_2; (try clear lt_kB); have lt_kB := kB.lt; replace kC := kC.step hx; (try clear kC_0 kC_f0 kC_1 kC_f1 kC_2 kC_f2); have kC_0 := kC.cell 0; have kC_f0 := kC.frozen 0; have kC_1 := kC.cell 1; have kC_f1 := kC.frozen 1; have kC_2 := kC.cell 2; have kC_f2 := kC.frozen 2; simp only [List.set_cons_zero, List.set_cons_succ, List.getElem?_cons_zero, List.getElem?_cons_succ] at kC_0 kC_1 kC_2; (try clear lt_kC); have lt_kC := kC.lt; replace kD := kD.step hx; (try clear kD_0 kD_f0 kD_1 kD_f1 kD_2 kD_f2); have kD_0 := kD.cell 0; have kD_f0 := kD.frozen 0; have kD_1 := kD.cell 1; have kD_f1 := kD.frozen 1; have kD_2 := kD.cell 2; have kD_f2 := kD.frozen 2; simp only [List.set_cons_zero, List.set_cons_succ, List.getElem?_cons_zero, List.getElem?_cons_succ] at kD_0 kD_1 kD_2; (try clear lt_kD); have lt_kD := kD.lt
  clear hx
  have kE_0 := kE.cell 0; have kE_f0 := kE.frozen 0; have kE_1 := kE.cell 1; have kE_f1 := kE.frozen 1; have kE_2 := kE.cell 2; have kE_f2 := kE.frozen 2; simp only [List.set_cons_zero, List.set_cons_succ, List.getElem?_cons_zero, List.getElem?_cons_succ] at kE_0 kE_1 kE_2; have lt_kE := kE.lt
  go_wp2_with fail
  refine (aw6 A3 c3 _ i3 hm r3).mono ?_; rintro e v11 ⟨A7, c7, rfl, r7, hx⟩
  replace hb := hb.step hx
  replace hm := hm.step hx
  replace r1 := r1.step hx
  replace r2 := r2.step hx
  replace r3 := r3.step hx
  replace r4 := r4.step hx
  replace r5 := r5.step hx
  replace kA := kA.step hx; (try clear kA_0 kA_f0 kA_1 kA_f1 kA_2 kA_f2); have kA_0 := kA.cell 0; have kA_f0 := kA.frozen 0; have kA_1 := kA.cell 1; have kA_f1 := kA.frozen 1; have kA_2 := kA.cell 2; have kA_f2 := kA.frozen 2; simp only [List.set_cons_zero, List.set_cons_succ, List.getElem?_cons_zero, List.getElem?_cons_succ] at kA_0 kA_1 kA_2; (try clear lt_kA); have lt_kA := kA.lt; replace kB := kB.step hx; (try clear kB_0 kB_f0 kB_1 kB_f1 kB_2 kB_f2); have kB_0 := kB.cell 0; have kB_f0 := kB.frozen 0; have kB_1 := kB.cell 1; have kB_f1 := kB.frozen 1; have kB_2 := kB.cell 2; have kB_f2 := kB.frozen 2; simp only [List.set_cons_zero, List.set_cons_succ, List.getElem?_cons_zero, List.getElem?_cons_succ] at kB_0 kB_1 kB_2; (try clear lt_kB); have lt_kB := kB.lt; replace kC := kC.step hx; (try clear kC_0 kC_f0 kC_1 kC_f1 kC_2 kC_f2); have kC_0 := kC.cell 0; have kC_f0 := kC.frozen 0; have kC_1 := kC.cell 1; have kC_f1 := kC.frozen 1; have kC_2 := kC.cell 2; have kC_f2 := kC.frozen 2; simp only [List.set_cons_zero, List.set_cons_succ, List.getElem?_cons_zero, List.getElem?_cons_succ] at kC_0 kC_1 kC_2; (try clear lt_kC); have lt_kC := kC.lt; replace kD := kD.step hx; (try clear kD_0 kD_f0 kD_1 kD_f1 kD_2 kD_f2); have kD_0 := kD.cell 0; have kD_f0 := kD.frozen 0; have kD_1 := kD.cell 1; have kD_f1 := kD.frozen 1; have kD_2 := kD.cell 2; have kD_f2 := kD.frozen 2; simp only [List.set_cons_zero, List.set_cons_succ, List.getElem?_cons_zero, List.getElem?_cons_succ] at kD_0 kD_1 kD_2; (try clear lt_kD); have lt_kD := kD.lt; replace kE := kE.step hx; (try clear kE_0 kE_f0 kE_1 kE_f1 kE_2 kE_f2); have kE_0 := kE.cell 0; have kE_f0 := kE.frozen 0; have kE_1 := kE.cell 1; have kE_f1 := kE.frozen 1; have kE_2 := kE.cell 2; have kE_f2 := kE.frozen 2; simp only [List.set_cons_zero, List.set_cons_succ, List.getElem?_cons_zero, List.getElem?_cons_succ] at kE_0 kE_1 kE_2; (try clear lt_kE); have lt_kE := kE.lt
  clear hx
  go_wp2_with fail
  generalize hV : World.alloc v11 _ = v12
  have hx : Below v11.heap.size v11 v12 := by subst hV; (repeat (first | with_reducible exact Below.refl _ _ | with_reducible assumption | with_reducible refine Below.drew ?_ | with_reducible refine Below.drewN ?_ _ | with_reducible refine Below.alloc1 ?_ _ | with_reducible refine Below.setCell1 ?_ (by first | omega | (simp; done) | (simp; omega)) _ | with_reducible refine Below.step ?_ (by with_reducible assumption)))
  have kF : Bk v12 v11.heap.size 31 [.slice A7 1 c7, .int .i64 0, .int .i64 1] := by subst hV; exact Bk.new v11 _ _
  clear hV
  replace hb := hb.step hx
  replace hm := hm.step hx
  replace r1 := r1.step hx
  replace r2 := r2.step hx
  replace r3 := r3.step hx
  replace r4 := r4.step hx
  replace r5 := r5.step hx
  replace r7 := r7.step hx
  replace kA := kA.step hx; (try clear kA_0 kA_f0 kA_1 kA_f1 kA_2 kA_f2); have kA_0 := kA.cell 0; have kA_f0 := kA.frozen 0; have kA_1 := kA.cell 1; have kA_f1 := kA.frozen 1; have kA_2 := kA.cell 2; have kA_f2 := kA.frozen 2; simp only [List.set_cons_zero, List.set_cons_succ, List.getElem?_cons_zero, List.getElem?_cons_succ] at kA_0 kA_1 kA_2; (try clear lt_kA); have lt_kA := kA.lt; replace kB := kB.step hx; (try clear kB_0 kB_f0 kB_1 kB_f1 kB_2 kB_f2); have kB_0 := kB.cell 0; have kB_f0 := kB.frozen 0; have kB_1 := kB.cell 1; have kB_f1 := kB.frozen 1; have kB_2 := kB.cell 2; have kB_f2 := kB.frozen 2; simp only [List.set_cons_zero, List.set_cons_succ, List.getElem?_cons_zero, List.getElem?_cons_succ] at kB_0 kB_1 kB_2; (try clear lt_kB); have lt_kB := kB.lt; replace kC := kC.step hx; (try clear kC_0 kC_f0 kC_1 kC_f1 kC_2 kC_f2); have kC_0 := kC.cell 0; have kC_f0 := kC.frozen 0; have kC_1 := kC.cell 1; have kC_f1 := kC.frozen 1; have kC_2 := kC.cell 2; have kC_f2 := kC.frozen 2; simp only [List.set_cons_zero, List.set_cons_succ, List.getElem?_cons_zero, List.getElem?_cons_succ] at kC_0 kC_1 kC_2; (try clear lt_kC); have lt_kC := kC.lt; replace kD := kD.step hx; (try clear kD_0 kD_f0 kD_1 kD_f1 kD_2 kD_f2); have kD_0 := kD.cell 0; have kD_f0 := kD.frozen 0; have kD_1 := kD.cell 1; have kD_f1 := kD.frozen 1; have kD_2 := kD.cell 2; have kD_f2 := kD.frozen 2; simp only [List.set_cons_zero, List.set_cons_succ, List.getElem?_cons_zero, List.getElem?_cons_succ] at kD_0 kD_1 kD_2; (try clear lt_kD); have lt_kD := kD.lt; replace kE := kE.step hx; (try clear kE_0 kE_f0 kE_1 kE_f1 kE_2 kE_f2); have kE_0 := kE.cell 0; have kE_f0 := kE.frozen 0; have kE_1 := kE.cell 1; have kE_f1 := kE.frozen 1; have kE_2 := kE.cell 2; have kE_f2 := kE.frozen 2; simp only [List.set_cons_zero, List.set_cons_succ, List.getElem?_cons_zero, List.getElem?_cons_succ] at kE_0 kE_1 kE_2; (try clear lt_kE); have lt_kE := kE.lt
  clear hx
  have kF_0 := kF.cell 0; have kF_f0 := kF.frozen 0; have kF_1 := kF.cell 1; have kF_f1 := kF.frozen 1; have kF_2 := kF.cell 2; have kF_f2 := kF.frozen 2; simp only [List.set_cons_zero, List.set_cons_succ, List.getElem?_cons_zero, List.getElem?_cons_succ] at kF_0 kF_1 kF_2; have lt_kF := kF.lt
  obtain ⟨ad5, rfl, hb5, c50, c51⟩ := r5.pb (k := 0) (by decide)
  rw [show ad5.add (0 * 2) = ad5 by simp [Addr.add]] at c50 c51
  dsimp only [List.getElem_cons_zero] at c50 c51
  have hel : Try.prog.elem 29 = 60 := by kernel_rfl
  have hsz : ∀ W, (sizeOf 60).run Try.prog W = .ok 2 W := fun W => by kernel_rfl
  have hIx : ∀ W, (Instr.indexAt 29 (.slice (some ad5) 1 c5) (.int .i64 0)).run Try.prog W = .ok (.pointer (some ad5)) W := fun W => by
    rw [run_indexAt_slice (h := by rw [hel]; exact Try.underlying29), if_pos (by decide), hel, hsz]; simp [Addr.add]
  clear hel hsz
  go_wp2_with fail
  simp only [hIx]
  go_simp
  go_wp2_with fail
  clear c50 c51 r5 hE
  refine (aw7 A3 c3 _ r3).mono ?_; rintro e v13 ⟨U, cu, rfl, rU, hx⟩
  replace hb := hb.step hx
  replace hm := hm.step hx
  replace r1 := r1.step hx
  replace r2 := r2.step hx
  replace r3 := r3.step hx
  replace r4 := r4.step hx
  replace r7 := r7.step hx
  replace kA := kA.step hx; (try clear kA_0 kA_f0 kA_1 kA_f1 kA_2 kA_f2); have kA_0 := kA.cell 0; have kA_f0 := kA.frozen 0; have kA_1 := kA.cell 1; have kA_f1 := kA.frozen 1; have kA_2 := kA.cell 2; have kA_f2 := kA.frozen 2; simp only [List.set_cons_zero, List.set_cons_succ, List.getElem?_cons_zero, List.getElem?_cons_succ] at kA_0 kA_1 kA_2; (try clear lt_kA); have lt_kA := kA.lt; replace kB := kB.step hx; (try clear kB_0 kB_f0 kB_1 kB_f1 kB_2 kB_f2); have kB_0 := kB.cell 0; have kB_f0 := kB.frozen 0; have kB_1 := kB.cell 1; have kB_f1 := kB.frozen 1; have kB_2 := kB.cell 2; have kB_f2 := kB.frozen 2; simp only [List.set_cons_zero, List.set_cons_succ, List.getElem?_cons_zero, List.getElem?_cons_succ] at kB_0 kB_1 kB_2; (try clear lt_kB); have lt_kB := kB.lt; replace kC := kC.step hx; (try clear kC_0 kC_f0 kC_1 kC_f1 kC_2 kC_f2); have kC_0 := kC.cell 0; have kC_f0 := kC.frozen 0; have kC_1 := kC.cell 1; have kC_f1 := kC.frozen 1; have kC_2 := kC.cell 2; have kC_f2 := kC.frozen 2; simp only [List.set_cons_zero, List.set_cons_succ, List.getElem?_cons_zero, List.getElem?_cons_succ] at kC_0 kC_1 kC_2; (try clear lt_kC); have lt_kC := kC.lt; replace kD := kD.step hx; (try clear kD_0 kD_f0 kD_1 kD_f1 kD_2 kD_f2); have kD_0 := kD.cell 0; have kD_f0 := kD.frozen 0; have kD_1 := kD.cell 1; have kD_f1 := kD.frozen 1; have kD_2 := kD.cell 2; have kD_f2 := kD.frozen 2; simp only [List.set_cons_zero, List.set_cons_succ, List.getElem?_cons_zero, List.getElem?_cons_succ] at kD_0 kD_1 kD_2; (try clear lt_kD); have lt_kD := kD.lt; replace kE := kE.step hx; (try clear kE_0 kE_f0 kE_1 kE_f1 kE_2 kE_f2); have kE_0 := kE.cell 0; have kE_f0 := kE.frozen 0; have kE_1 := kE.cell 1; have kE_f1 := kE.frozen 1; have kE_2 := kE.cell 2; have kE_f2 := kE.frozen 2; simp only [List.set_cons_zero, List.set_cons_succ, List.getElem?_cons_zero, List.getElem?_cons_succ] at kE_0 kE_1 kE_2; (try clear lt_kE); have lt_kE := kE.lt; replace kF := kF.step hx; (try clear kF_0 kF_f0 kF_1 kF_f1 kF_2 kF_f2); have kF_0 := kF.cell 0; have kF_f0 := kF.frozen 0; have kF_1 := kF.cell 1; have kF_f1 := kF.frozen 1; have kF_2 := kF.cell 2; have kF_f2 := kF.frozen 2; simp only [List.set_cons_zero, List.set_cons_succ, List.getElem?_cons_zero, List.getElem?_cons_succ] at kF_0 kF_1 kF_2; (try clear lt_kF); have lt_kF := kF.lt
  clear hx
  go_wp2_with fail
  generalize hV : World.alloc v13 _ = v14
  have hx : Below v13.heap.size v13 v14 := by subst hV; (repeat (first | with_reducible exact Below.refl _ _ | with_reducible assumption | with_reducible refine Below.drew ?_ | with_reducible refine Below.drewN ?_ _ | with_reducible refine Below.alloc1 ?_ _ | with_reducible refine Below.setCell1 ?_ (by first | omega | (simp; done) | (simp; omega)) _ | with_reducible refine Below.step ?_ (by with_reducible assumption)))
  have rT : Rd v14 v14.heap.size (some ⟨v13.heap.size, 0, none⟩) (txts [⟨#[99, 64, 121]⟩]) := by subst hV; exact (Bk.new v13 9 [.string ⟨#[99, 64, 121]⟩]).rd
  clear hV
  replace hb := hb.step hx
  replace hm := hm.step hx
  replace r1 := r1.step hx
  replace r2 := r2.step hx
  replace r3 := r3.step hx
  replace r4 := r4.step hx
  replace r7 := r7.step hx
  replace rU := rU.step hx
  replace kA := kA.step hx; (try clear kA_0 kA_f0 kA_1 kA_f1 kA_2 kA_f2); have kA_0 := kA.cell 0; have kA_f0 := kA.frozen 0; have kA_1 := kA.cell 1; have kA_f1 := kA.frozen 1; have kA_2 := kA.cell 2; have kA_f2 := kA.frozen 2; simp only [List.set_cons_zero, List.set_cons_succ, List.getElem?_cons_zero, List.getElem?_cons_succ] at kA_0 kA_1 kA_2; (try clear lt_kA); have lt_kA := kA.lt; replace kB := kB.step hx; (try clear kB_0 kB_f0 kB_1 kB_f1 kB_2 kB_f2); have kB_0 := kB.cell 0; have kB_f0 := kB.frozen 0; have kB_1 := kB.cell 1; have kB_f1 := kB.frozen 1; have kB_2 := kB.cell 2; have kB_f2 := kB.frozen 2; simp only [List.set_cons_zero, List.set_cons_succ, List.getElem?_cons_zero, List.getElem?_cons_succ] at kB_0 kB_1 kB_2; (try clear lt_kB); have lt_kB := kB.lt; replace kC := kC.step hx; (try clear kC_0 kC_f0 kC_1 kC_f1 kC_2 kC_f2); have kC_0 := kC.cell 0; have kC_f0 := kC.frozen 0; have kC_1 := kC.cell 1; have kC_f1 := kC.frozen 1; have kC_2 := kC.cell 2; have kC_f2 := kC.frozen 2; simp only [List.set_cons_zero, List.set_cons_succ, List.getElem?_cons_zero, List.getElem?_cons_succ] at kC_0 kC_1 kC_2; (try clear lt_kC); have lt_kC := kC.lt; replace kD := kD.step hx; (try clear kD_0 kD_f0 kD_1 kD_f1 kD_2 kD_f2); have kD_0 := kD.cell 0; have kD_f0 := kD.frozen 0; have kD_1 := kD.cell 1; have kD_f1 := kD.frozen 1; have kD_2 := kD.cell 2; have kD_f2 := kD.frozen 2; simp only [List.set_cons_zero, List.set_cons_succ, List.getElem?_cons_zero, List.getElem?_cons_succ] at kD_0 kD_1 kD_2; (try clear lt_kD); have lt_kD := kD.lt; replace kE := kE.step hx; (try clear kE_0 kE_f0 kE_1 kE_f1 kE_2 kE_f2); have kE_0 := kE.cell 0; have kE_f0 := kE.frozen 0; have kE_1 := kE.cell 1; have kE_f1 := kE.frozen 1; have kE_2 := kE.cell 2; have kE_f2 := kE.frozen 2; simp only [List.set_cons_zero, List.set_cons_succ, List.getElem?_cons_zero, List.getElem?_cons_succ] at kE_0 kE_1 kE_2; (try clear lt_kE); have lt_kE := kE.lt; replace kF := kF.step hx; (try clear kF_0 kF_f0 kF_1 kF_f1 kF_2 kF_f2); have kF_0 := kF.cell 0; have kF_f0 := kF.frozen 0; have kF_1 := kF.cell 1; have kF_f1 := kF.frozen 1; have kF_2 := kF.cell 2; have kF_f2 := kF.frozen 2; simp only [List.set_cons_zero, List.set_cons_succ, List.getElem?_cons_zero, List.getElem?_cons_succ] at kF_0 kF_1 kF_2; (try clear lt_kF); have lt_kF := kF.lt
  clear hx
  refine (aw14 U _ cu _ _ rU rT).mono ?_; rintro e v15 ⟨rfl, hq⟩
  have hx : Below v14.heap.size v14 v15 := qt_below hq
  clear hq
  replace hb := hb.step hx
  replace hm := hm.step hx
  replace r1 := r1.step hx
  replace r2 := r2.step hx
  replace r3 := r3.step hx
  replace r4 := r4.step hx
  replace r7 := r7.step hx
  replace rU := rU.step hx
  replace rT := rT.step hx
  replace kA := kA.step hx; (try clear kA_0 kA_f0 kA_1 kA_f1 kA_2 kA_f2); have kA_0 := kA.cell 0; have kA_f0 := kA.frozen 0; have kA_1 := kA.cell 1; have kA_f1 := kA.frozen 1; have kA_2 := kA.cell 2; have kA_f2 := kA.frozen 2; simp only [List.set_cons_zero, List.set_cons_succ, List.getElem?_cons_zero, List.getElem?_cons_succ] at kA_0 kA_1 kA_2; (try clear lt_kA); have lt_kA := kA.lt; replace kB := kB.step hx; (try clear kB_0 kB_f0 kB_1 kB_f1 kB_2 kB_f2); have kB_0 := kB.cell 0; have kB_f0 := kB.frozen 0; have kB_1 := kB.cell 1; have kB_f1 := kB.frozen 1; have kB_2 := kB.cell 2; have kB_f2 := kB.frozen 2; simp only [List.set_cons_zero, List.set_cons_succ, List.getElem?_cons_zero, List.getElem?_cons_succ] at kB_0 kB_1 kB_2; (try clear lt_kB); have lt_kB := kB.lt; replace kC := kC.step hx; (try clear kC_0 kC_f0 kC_1 kC_f1 kC_2 kC_f2); have kC_0 := kC.cell 0; have kC_f0 := kC.frozen 0; have kC_1 := kC.cell 1; have kC_f1 := kC.frozen 1; have kC_2 := kC.cell 2; have kC_f2 := kC.frozen 2; simp only [List.set_cons_zero, List.set_cons_succ, List.getElem?_cons_zero, List.getElem?_cons_succ] at kC_0 kC_1 kC_2; (try clear lt_kC); have lt_kC := kC.lt; replace kD := kD.step hx; (try clear kD_0 kD_f0 kD_1 kD_f1 kD_2 kD_f2); have kD_0 := kD.cell 0; have kD_f0 := kD.frozen 0; have kD_1 := kD.cell 1; have kD_f1 := kD.frozen 1; have kD_2 := kD.cell 2; have kD_f2 := kD.frozen 2; simp only [List.set_cons_zero, List.set_cons_succ, List.getElem?_cons_zero, List.getElem?_cons_succ] at kD_0 kD_1 kD_2; (try clear lt_kD); have lt_kD := kD.lt; replace kE := kE.step hx; (try clear kE_0 kE_f0 kE_1 kE_f1 kE_2 kE_f2); have kE_0 := kE.cell 0; have kE_f0 := kE.frozen 0; have kE_1 := kE.cell 1; have kE_f1 := kE.frozen 1; have kE_2 := kE.cell 2; have kE_f2 := kE.frozen 2; simp only [List.set_cons_zero, List.set_cons_succ, List.getElem?_cons_zero, List.getElem?_cons_succ] at kE_0 kE_1 kE_2; (try clear lt_kE); have lt_kE := kE.lt; replace kF := kF.step hx; (try clear kF_0 kF_f0 kF_1 kF_f1 kF_2 kF_f2); have kF_0 := kF.cell 0; have kF_f0 := kF.frozen 0; have kF_1 := kF.cell 1; have kF_f1 := kF.frozen 1; have kF_2 := kF.cell 2; have kF_f2 := kF.frozen 2; simp only [List.set_cons_zero, List.set_cons_succ, List.getElem?_cons_zero, List.getElem?_cons_succ] at kF_0 kF_1 kF_2; (try clear lt_kF); have lt_kF := kF.lt
  clear hx
  go_wp2_with fail
  refine (aw8 1 A3 c3 _ 2 rd8 i3 hm r3).mono ?_; rintro e v16 ⟨rfl, hx⟩
  replace hb := hb.step hx
  replace hm := hm.step hx
  replace r1 := r1.step hx
  replace r2 := r2.step hx
  replace r3 := r3.step hx
  replace r4 := r4.step hx
  replace r7 := r7.step hx
  replace rU := rU.step hx
  replace rT := rT.step hx
  replace kA := kA.step hx; (try clear kA_0 kA_f0 kA_1 kA_f1 kA_2 kA_f2); have kA_0 := kA.cell 0; have kA_f0 := kA.frozen 0; have kA_1 := kA.cell 1; have kA_f1 := kA.frozen 1; have kA_2 := kA.cell 2; have kA_f2 := kA.frozen 2; simp only [List.set_cons_zero, List.set_cons_succ, List.getElem?_cons_zero, List.getElem?_cons_succ] at kA_0 kA_1 kA_2; (try clear lt_kA); have lt_kA := kA.lt; replace kB := kB.step hx; (try clear kB_0 kB_f0 kB_1 kB_f1 kB_2 kB_f2); have kB_0 := kB.cell 0; have kB_f0 := kB.frozen 0; have kB_1 := kB.cell 1; have kB_f1 := kB.frozen 1; have kB_2 := kB.cell 2; have kB_f2 := kB.frozen 2; simp only [List.set_cons_zero, List.set_cons_succ, List.getElem?_cons_zero, List.getElem?_cons_succ] at kB_0 kB_1 kB_2; (try clear lt_kB); have lt_kB := kB.lt; replace kC := kC.step hx; (try clear kC_0 kC_f0 kC_1 kC_f1 kC_2 kC_f2); have kC_0 := kC.cell 0; have kC_f0 := kC.frozen 0; have kC_1 := kC.cell 1; have kC_f1 := kC.frozen 1; have kC_2 := kC.cell 2; have kC_f2 := kC.frozen 2; simp only [List.set_cons_zero, List.set_cons_succ, List.getElem?_cons_zero, List.getElem?_cons_succ] at kC_0 kC_1 kC_2; (try clear lt_kC); have lt_kC := kC.lt; replace kD := kD.step hx; (try clear kD_0 kD_f0 kD_1 kD_f1 kD_2 kD_f2); have kD_0 := kD.cell 0; have kD_f0 := kD.frozen 0; have kD_1 := kD.cell 1; have kD_f1 := kD.frozen 1; have kD_2 := kD.cell 2; have kD_f2 := kD.frozen 2; simp only [List.set_cons_zero, List.set_cons_succ, List.getElem?_cons_zero, List.getElem?_cons_succ] at kD_0 kD_1 kD_2; (try clear lt_kD); have lt_kD := kD.lt; replace kE := kE.step hx; (try clear kE_0 kE_f0 kE_1 kE_f1 kE_2 kE_f2); have kE_0 := kE.cell 0; have kE_f0 := kE.frozen 0; have kE_1 := kE.cell 1; have kE_f1 := kE.frozen 1; have kE_2 := kE.cell 2; have kE_f2 := kE.frozen 2; simp only [List.set_cons_zero, List.set_cons_succ, List.getElem?_cons_zero, List.getElem?_cons_succ] at kE_0 kE_1 kE_2; (try clear lt_kE); have lt_kE := kE.lt; replace kF := kF.step hx; (try clear kF_0 kF_f0 kF_1 kF_f1 kF_2 kF_f2); have kF_0 := kF.cell 0; have kF_f0 := kF.frozen 0; have kF_1 := kF.cell 1; have kF_f1 := kF.frozen 1; have kF_2 := kF.cell 2; have kF_f2 := kF.frozen 2; simp only [List.set_cons_zero, List.set_cons_succ, List.getElem?_cons_zero, List.getElem?_cons_succ] at kF_0 kF_1 kF_2; (try clear lt_kF); have lt_kF := kF.lt
  clear hx
  go_wp2_with fail
  refine (aw8 0 A3 c3 _ (-1) rd9 i3 hm r3).mono ?_; rintro e v17 ⟨rfl, hx⟩
  replace hb := hb.step hx
  replace hm := hm.step hx
  replace r1 := r1.step hx
  replace r2 := r2.step hx
  replace r3 := r3.step hx
  replace r4 := r4.step hx
  replace r7 := r7.step hx
  replace rU := rU.step hx
  replace rT := rT.step hx
  replace kA := kA.step hx; (try clear kA_0 kA_f0 kA_1 kA_f1 kA_2 kA_f2); have kA_0 := kA.cell 0; have kA_f0 := kA.frozen 0; have kA_1 := kA.cell 1; have kA_f1 := kA.frozen 1; have kA_2 := kA.cell 2; have kA_f2 := kA.frozen 2; simp only [List.set_cons_zero, List.set_cons_succ, List.getElem?_cons_zero, List.getElem?_cons_succ] at kA_0 kA_1 kA_2; (try clear lt_kA); have lt_kA := kA.lt; replace kB := kB.step hx; (try clear kB_0 kB_f0 kB_1 kB_f1 kB_2 kB_f2); have kB_0 := kB.cell 0; have kB_f0 := kB.frozen 0; have kB_1 := kB.cell 1; have kB_f1 := kB.frozen 1; have kB_2 := kB.cell 2; have kB_f2 := kB.frozen 2; simp only [List.set_cons_zero, List.set_cons_succ, List.getElem?_cons_zero, List.getElem?_cons_succ] at kB_0 kB_1 kB_2; (try clear lt_kB); have lt_kB := kB.lt; replace kC := kC.step hx; (try clear kC_0 kC_f0 kC_1 kC_f1 kC_2 kC_f2); have kC_0 := kC.cell 0; have kC_f0 := kC.frozen 0; have kC_1 := kC.cell 1; have kC_f1 := kC.frozen 1; have kC_2 := kC.cell 2; have kC_f2 := kC.frozen 2; simp only [List.set_cons_zero, List.set_cons_succ, List.getElem?_cons_zero, List.getElem?_cons_succ] at kC_0 kC_1 kC_2; (try clear lt_kC); have lt_kC := kC.lt; replace kD := kD.step hx; (try clear kD_0 kD_f0 kD_1 kD_f1 kD_2 kD_f2); have kD_0 := kD.cell 0; have kD_f0 := kD.frozen 0; have kD_1 := kD.cell 1; have kD_f1 := kD.frozen 1; have kD_2 := kD.cell 2; have kD_f2 := kD.frozen 2; simp only [List.set_cons_zero, List.set_cons_succ, List.getElem?_cons_zero, List.getElem?_cons_succ] at kD_0 kD_1 kD_2; (try clear lt_kD); have lt_kD := kD.lt; replace kE := kE.step hx; (try clear kE_0 kE_f0 kE_1 kE_f1 kE_2 kE_f2); have kE_0 := kE.cell 0; have kE_f0 := kE.frozen 0; have kE_1 := kE.cell 1; have kE_f1 := kE.frozen 1; have kE_2 := kE.cell 2; have kE_f2 := kE.frozen 2; simp only [List.set_cons_zero, List.set_cons_succ, List.getElem?_cons_zero, List.getElem?_cons_succ] at kE_0 kE_1 kE_2; (try clear lt_kE); have lt_kE := kE.lt; replace kF := kF.step hx; (try clear kF_0 kF_f0 kF_1 kF_f1 kF_2 kF_f2); have kF_0 := kF.cell 0; have kF_f0 := kF.frozen 0; have kF_1 := kF.cell 1; have kF_f1 := kF.frozen 1; have kF_2 := kF.cell 2; have kF_f2 := kF.frozen 2; simp only [List.set_cons_zero, List.set_cons_succ, List.getElem?_cons_zero, List.getElem?_cons_succ] at kF_0 kF_1 kF_2; (try clear lt_kF); have lt_kF := kF.lt
  clear hx
  go_wp2_with fail
  refine (aw10 A3 c3 _ i3 hm r3).mono ?_; rintro e v18 ⟨rfl, hx⟩
  replace hb := hb.step hx
  replace hm := hm.step hx
  replace r1 := r1.step hx
  replace r2 := r2.step hx
  replace r3 := r3.step hx
  replace r4 := r4.step hx
  replace r7 := r7.step hx
  replace rU := rU.step hx
  replace rT := rT.step hx
  replace kA := kA.step hx; (try clear kA_0 kA_f0 kA_1 kA_f1 kA_2 kA_f2); have kA_0 := kA.cell 0; have kA_f0 := kA.frozen 0; have kA_1 := kA.cell 1; have kA_f1 := kA.frozen 1; have kA_2 := kA.cell 2; have kA_f2 := kA.frozen 2; simp only [List.set_cons_zero, List.set_cons_succ, List.getElem?_cons_zero, List.getElem?_cons_succ] at kA_0 kA_1 kA_2; (try clear lt_kA); have lt_kA := kA.lt; replace kB := kB.step hx; (try clear kB_0 kB_f0 kB_1 kB_f1 kB_2 kB_f2); have kB_0 := kB.cell 0; have kB_f0 := kB.frozen 0; have kB_1 := kB.cell 1; have kB_f1 := kB.frozen 1; have kB_2 := kB.cell 2; have kB_f2 := kB.frozen 2; simp only [List.set_cons_zero, List.set_cons_succ, List.getElem?_cons_zero, List.getElem?_cons_succ] at kB_0 kB_1 kB_2; (try clear lt_kB); have lt_kB := kB.lt; replace kC := kC.step hx; (try clear kC_0 kC_f0 kC_1 kC_f1 kC_2 kC_f2); have kC_0 := kC.cell 0; have kC_f0 := kC.frozen 0; have kC_1 := kC.cell 1; have kC_f1 := kC.frozen 1; have kC_2 := kC.cell 2; have kC_f2 := kC.frozen 2; simp only [List.set_cons_zero, List.set_cons_succ, List.getElem?_cons_zero, List.getElem?_cons_succ] at kC_0 kC_1 kC_2; (try clear lt_kC); have lt_kC := kC.lt; replace kD := kD.step hx; (try clear kD_0 kD_f0 kD_1 kD_f1 kD_2 kD_f2); have kD_0 := kD.cell 0; have kD_f0 := kD.frozen 0; have kD_1 := kD.cell 1; have kD_f1 := kD.frozen 1; have kD_2 := kD.cell 2; have kD_f2 := kD.frozen 2; simp only [List.set_cons_zero, List.set_cons_succ, List.getElem?_cons_zero, List.getElem?_cons_succ] at kD_0 kD_1 kD_2; (try clear lt_kD); have lt_kD := kD.lt; replace kE := kE.step hx; (try clear kE_0 kE_f0 kE_1 kE_f1 kE_2 kE_f2); have kE_0 := kE.cell 0; have kE_f0 := kE.frozen 0; have kE_1 := kE.cell 1; have kE_f1 := kE.frozen 1; have kE_2 := kE.cell 2; have kE_f2 := kE.frozen 2; simp only [List.set_cons_zero, List.set_cons_succ, List.getElem?_cons_zero, List.getElem?_cons_succ] at kE_0 kE_1 kE_2; (try clear lt_kE); have lt_kE := kE.lt; replace kF := kF.step hx; (try clear kF_0 kF_f0 kF_1 kF_f1 kF_2 kF_f2); have kF_0 := kF.cell 0; have kF_f0 := kF.frozen 0; have kF_1 := kF.cell 1; have kF_f1 := kF.frozen 1; have kF_2 := kF.cell 2; have kF_f2 := kF.frozen 2; simp only [List.set_cons_zero, List.set_cons_succ, List.getElem?_cons_zero, List.getElem?_cons_succ] at kF_0 kF_1 kF_2; (try clear lt_kF); have lt_kF := kF.lt
  clear hx
  go_wp2_with fail
  refine (aw11 _ hm).mono ?_; rintro e v19 ⟨rfl, hx⟩
  replace hb := hb.step hx
  replace hm := hm.step hx
  replace r1 := r1.step hx
  replace r2 := r2.step hx
  replace r3 := r3.step hx
  replace r4 := r4.step hx
  replace r7 := r7.step hx
  replace rU := rU.step hx
  replace rT := rT.step hx
  replace kA := kA.step hx; (try clear kA_0 kA_f0 kA_1 kA_f1 kA_2 kA_f2); have kA_0 := kA.cell 0; have kA_f0 := kA.frozen 0; have kA_1 := kA.cell 1; have kA_f1 := kA.frozen 1; have kA_2 := kA.cell 2; have kA_f2 := kA.frozen 2; simp only [List.set_cons_zero, List.set_cons_succ, List.getElem?_cons_zero, List.getElem?_cons_succ] at kA_0 kA_1 kA_2; (try clear lt_kA); have lt_kA := kA.lt; replace kB := kB.step hx; (try clear kB_0 kB_f0 kB_1 kB_f1 kB_2 kB_f2); have kB_0 := kB.cell 0; have kB_f0 := kB.frozen 0; have kB_1 := kB.cell 1; have kB_f1 := kB.frozen 1; have kB_2 := kB.cell 2; have kB_f2 := kB.frozen 2; simp only [List.set_cons_zero, List.set_cons_succ, List.getElem?_cons_zero, List.getElem?_cons_succ] at kB_0 kB_1 kB_2; (try clear lt_kB); have lt_kB := kB.lt; replace kC := kC.step hx; (try clear kC_0 kC_f0 kC_1 kC_f1 kC_2 kC_f2); have kC_0 := kC.cell 0; have kC_f0 := kC.frozen 0; have kC_1 := kC.cell 1; have kC_f1 := kC.frozen 1; have kC_2 := kC.cell 2; have kC_f2 := kC.frozen 2; simp only [List.set_cons_zero, List.set_cons_succ, List.getElem?_cons_zero, List.getElem?_cons_succ] at kC_0 kC_1 kC_2; (try clear lt_kC); have lt_kC := kC.lt; replace kD := kD.step hx; (try clear kD_0 kD_f0 kD_1 kD_f1 kD_2 kD_f2); have kD_0 := kD.cell 0; have kD_f0 := kD.frozen 0; have kD_1 := kD.cell 1; have kD_f1 := kD.frozen 1; have kD_2 := kD.cell 2; have kD_f2 := kD.frozen 2; simp only [List.set_cons_zero, List.set_cons_succ, List.getElem?_cons_zero, List.getElem?_cons_succ] at kD_0 kD_1 kD_2; (try clear lt_kD); have lt_kD := kD.lt; replace kE := kE.step hx; (try clear kE_0 kE_f0 kE_1 kE_f1 kE_2 kE_f2); have kE_0 := kE.cell 0; have kE_f0 := kE.frozen 0; have kE_1 := kE.cell 1; have kE_f1 := kE.frozen 1; have kE_2 := kE.cell 2; have kE_f2 := kE.frozen 2; simp only [List.set_cons_zero, List.set_cons_succ, List.getElem?_cons_zero, List.getElem?_cons_succ] at kE_0 kE_1 kE_2; (try clear lt_kE); have lt_kE := kE.lt; replace kF := kF.step hx; (try clear kF_0 kF_f0 kF_1 kF_f1 kF_2 kF_f2); have kF_0 := kF.cell 0; have kF_f0 := kF.frozen 0; have kF_1 := kF.cell 1; have kF_f1 := kF.frozen 1; have kF_2 := kF.cell 2; have kF_f2 := kF.frozen 2; simp only [List.set_cons_zero, List.set_cons_succ, List.getElem?_cons_zero, List.getElem?_cons_succ] at kF_0 kF_1 kF_2; (try clear lt_kF); have lt_kF := kF.lt
  clear hx
  go_wp2_with fail
  refine (aw12 A3 A4 c3 c4 _ r3 r4).mono ?_; rintro e v20 ⟨rfl, hx⟩
  replace hb := hb.step hx
  replace hm := hm.step hx
  replace r1 := r1.step hx
  replace r2 := r2.step hx
  replace r3 := r3.step hx
  replace r4 := r4.step hx
  replace r7 := r7.step hx
  replace rU := rU.step hx
  replace rT := rT.step hx
  replace kA := kA.step hx; (try clear kA_0 kA_f0 kA_1 kA_f1 kA_2 kA_f2); have kA_0 := kA.cell 0; have kA_f0 := kA.frozen 0; have kA_1 := kA.cell 1; have kA_f1 := kA.frozen 1; have kA_2 := kA.cell 2; have kA_f2 := kA.frozen 2; simp only [List.set_cons_zero, List.set_cons_succ, List.getElem?_cons_zero, List.getElem?_cons_succ] at kA_0 kA_1 kA_2; (try clear lt_kA); have lt_kA := kA.lt; replace kB := kB.step hx; (try clear kB_0 kB_f0 kB_1 kB_f1 kB_2 kB_f2); have kB_0 := kB.cell 0; have kB_f0 := kB.frozen 0; have kB_1 := kB.cell 1; have kB_f1 := kB.frozen 1; have kB_2 := kB.cell 2; have kB_f2 := kB.frozen 2; simp only [List.set_cons_zero, List.set_cons_succ, List.getElem?_cons_zero, List.getElem?_cons_succ] at kB_0 kB_1 kB_2; (try clear lt_kB); have lt_kB := kB.lt; replace kC := kC.step hx; (try clear kC_0 kC_f0 kC_1 kC_f1 kC_2 kC_f2); have kC_0 := kC.cell 0; have kC_f0 := kC.frozen 0; have kC_1 := kC.cell 1; have kC_f1 := kC.frozen 1; have kC_2 := kC.cell 2; have kC_f2 := kC.frozen 2; simp only [List.set_cons_zero, List.set_cons_succ, List.getElem?_cons_zero, List.getElem?_cons_succ] at kC_0 kC_1 kC_2; (try clear lt_kC); have lt_kC := kC.lt; replace kD := kD.step hx; (try clear kD_0 kD_f0 kD_1 kD_f1 kD_2 kD_f2); have kD_0 := kD.cell 0; have kD_f0 := kD.frozen 0; have kD_1 := kD.cell 1; have kD_f1 := kD.frozen 1; have kD_2 := kD.cell 2; have kD_f2 := kD.frozen 2; simp only [List.set_cons_zero, List.set_cons_succ, List.getElem?_cons_zero, List.getElem?_cons_succ] at kD_0 kD_1 kD_2; (try clear lt_kD); have lt_kD := kD.lt; replace kE := kE.step hx; (try clear kE_0 kE_f0 kE_1 kE_f1 kE_2 kE_f2); have kE_0 := kE.cell 0; have kE_f0 := kE.frozen 0; have kE_1 := kE.cell 1; have kE_f1 := kE.frozen 1; have kE_2 := kE.cell 2; have kE_f2 := kE.frozen 2; simp only [List.set_cons_zero, List.set_cons_succ, List.getElem?_cons_zero, List.getElem?_cons_succ] at kE_0 kE_1 kE_2; (try clear lt_kE); have lt_kE := kE.lt; replace kF := kF.step hx; (try clear kF_0 kF_f0 kF_1 kF_f1 kF_2 kF_f2); have kF_0 := kF.cell 0; have kF_f0 := kF.frozen 0; have kF_1 := kF.cell 1; have kF_f1 := kF.frozen 1; have kF_2 := kF.cell 2; have kF_f2 := kF.frozen 2; simp only [List.set_cons_zero, List.set_cons_succ, List.getElem?_cons_zero, List.getElem?_cons_succ] at kF_0 kF_1 kF_2; (try clear lt_kF); have lt_kF := kF.lt
  clear hx
  go_wp2_with fail
  refine (aw13 A2 A7 c2 c7 _ r2 r7).mono ?_; rintro e v21 ⟨rfl, hx⟩
  replace hb := hb.step hx
  replace hm := hm.step hx
  replace r1 := r1.step hx
  replace r2 := r2.step hx
  replace r3 := r3.step hx
  replace r4 := r4.step hx
  replace r7 := r7.step hx
  replace rU := rU.step hx
  replace rT := rT.step hx
  replace kA := kA.step hx; (try clear kA_0 kA_f0 kA_1 kA_f1 kA_2 kA_f2); have kA_0 := kA.cell 0; have kA_f0 := kA.frozen 0; have kA_1 := kA.cell 1; have kA_f1 := kA.frozen 1; have kA_2 := kA.cell 2; have kA_f2 := kA.frozen 2; simp only [List.set_cons_zero, List.set_cons_succ, List.getElem?_cons_zero, List.getElem?_cons_succ] at kA_0 kA_1 kA_2; (try clear lt_kA); have lt_kA := kA.lt; replace kB := kB.step hx; (try clear kB_0 kB_f0 kB_1 kB_f1 kB_2 kB_f2); have kB_0 := kB.cell 0; have kB_f0 := kB.frozen 0; have kB_1 := kB.cell 1; have kB_f1 := kB.frozen 1; have kB_2 := kB.cell 2; have kB_f2 := kB.frozen 2; simp only [List.set_cons_zero, List.set_cons_succ, List.getElem?_cons_zero, List.getElem?_cons_succ] at kB_0 kB_1 kB_2; (try clear lt_kB); have lt_kB := kB.lt; replace kC := kC.step hx; (try clear kC_0 kC_f0 kC_1 kC_f1 kC_2 kC_f2); have kC_0 := kC.cell 0; have kC_f0 := kC.frozen 0; have kC_1 := kC.cell 1; have kC_f1 := kC.frozen 1; have kC_2 := kC.cell 2; have kC_f2 := kC.frozen 2; simp only [List.set_cons_zero, List.set_cons_succ, List.getElem?_cons_zero, List.getElem?_cons_succ] at kC_0 kC_1 kC_2; (try clear lt_kC); have lt_kC := kC.lt; replace kD := kD.step hx; (try clear kD_0 kD_f0 kD_1 kD_f1 kD_2 kD_f2); have kD_0 := kD.cell 0; have kD_f0 := kD.frozen 0; have kD_1 := kD.cell 1; have kD_f1 := kD.frozen 1; have kD_2 := kD.cell 2; have kD_f2 := kD.frozen 2; simp only [List.set_cons_zero, List.set_cons_succ, List.getElem?_cons_zero, List.getElem?_cons_succ] at kD_0 kD_1 kD_2; (try clear lt_kD); have lt_kD := kD.lt; replace kE := kE.step hx; (try clear kE_0 kE_f0 kE_1 kE_f1 kE_2 kE_f2); have kE_0 := kE.cell 0; have kE_f0 := kE.frozen 0; have kE_1 := kE.cell 1; have kE_f1 := kE.frozen 1; have kE_2 := kE.cell 2; have kE_f2 := kE.frozen 2; simp only [List.set_cons_zero, List.set_cons_succ, List.getElem?_cons_zero, List.getElem?_cons_succ] at kE_0 kE_1 kE_2; (try clear lt_kE); have lt_kE := kE.lt; replace kF := kF.step hx; (try clear kF_0 kF_f0 kF_1 kF_f1 kF_2 kF_f2); have kF_0 := kF.cell 0; have kF_f0 := kF.frozen 0; have kF_1 := kF.cell 1; have kF_f1 := kF.frozen 1; have kF_2 := kF.cell 2; have kF_f2 := kF.frozen 2; simp only [List.set_cons_zero, List.set_cons_succ, List.getElem?_cons_zero, List.getElem?_cons_succ] at kF_0 kF_1 kF_2; (try clear lt_kF); have lt_kF := kF.lt
  clear hx
  go_wp2_with fail
  go_ret
  exact ⟨rfl, hb⟩
end Go.Proofs.Ytfgfkiifekeeaaa
