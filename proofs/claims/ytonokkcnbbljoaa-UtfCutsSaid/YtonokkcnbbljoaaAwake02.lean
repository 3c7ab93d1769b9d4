/- callboylaw02.awake answers true. -/
import Derived.Test.YtonokkcnbbljoaaRef02d
import Derived.Test.YtonokkcnbbljoaaSame
import Derived.Deep.DeepCutAuto
namespace Go.Proofs.Ytonokkcnbbljoaa
open Go.RowKit Go.Shelf
set_option linter.unusedSimpArgs false
set_option linter.unusedVariables false

/-- the same, with fuel: to be reckoned at closed texts -/
def uScanF : Nat → List UInt8 → List (Int × Nat)
  | 0, _ => []
  | n + 1, s => if s = [] then [] else uNext s :: uScanF n (s.drop (uNext s).2)
theorem uScan_fuel (n : Nat) : ∀ s : List UInt8, s.length ≤ n → uScan s = uScanF n s := by
  induction n with
  | zero =>
    intro s h
    obtain rfl : s = [] := List.eq_nil_of_length_eq_zero (by omega)
    rw [uScan_nil]; rfl
  | succ n ih =>
    intro s h
    unfold uScanF
    by_cases hs : s = []
    · rw [if_pos hs, hs, uScan_nil]
    · rw [if_neg hs, uScan_cons s hs, ih _ (by have := drop_lt s hs; omega)]
theorem sc1 : uScan [97, 240, 159, 152, 128] = [(97, 1), (128512, 4)] := (uScan_fuel 5 _ (by decide)).trans (by decide +kernel)
theorem sc2 : uScan [97, 255] = [(97, 1), (-1, 1)] := (uScan_fuel 5 _ (by decide)).trans (by decide +kernel)
theorem sc3 : uScan [97, 255, 195, 169] = [(97, 1), (-1, 1), (233, 2)] := (uScan_fuel 5 _ (by decide)).trans (by decide +kernel)
theorem sc4 : uScan [97, 195, 169] = [(97, 1), (233, 2)] := (uScan_fuel 5 _ (by decide)).trans (by decide +kernel)
theorem sc5 : uScan [97, 32, 98] = [(97, 1), (32, 1), (98, 1)] := (uScan_fuel 5 _ (by decide)).trans (by decide +kernel)
theorem sc6 : uScan [97, 127] = [(97, 1), (127, 1)] := (uScan_fuel 5 _ (by decide)).trans (by decide +kernel)
set_option maxRecDepth 1000000 in
set_option maxHeartbeats 8000000 in
theorem awake02 (w : World) : Calls Try.prog 7 #[] w fun e w' => e = .returned (.bool true) ∧ Below w.heap.size w w' := by
  have a1 : uAll [97, 240, 159, 152, 128] = [97, 128512] := by unfold uAll uBad; rw [sc1]; rfl
  have b1 : uBad [97, 240, 159, 152, 128] = false := by unfold uBad; rw [sc1]; rfl
  have b2 : uBad [97, 255] = true := by unfold uBad; rw [sc2]; rfl
  have c4 : uCut [97, 195, 169] 2 = 1 := by unfold uCut; rw [sc4]; rfl
  have p5 : uPlain [97, 32, 98] = true := by unfold uPlain; rw [sc5]; rfl
  have p6 : uPlain [97, 127] = false := by unfold uPlain; rw [sc6]; rfl
  have k1 : ∀ W, Calls Try.prog 10 #[.string ⟨#[97, 240, 159, 152, 128]⟩] W fun e w' => ∃ v, e = .returned (.tuple #[v, .int .i64 0]) ∧ w'.ownsRow W.heap.size 3 1 v 2 (iCells [97, 128512]) ∧ Below W.heap.size W w' := by
    intro W
    refine (utf_All_any ⟨#[97, 240, 159, 152, 128]⟩ (by decide) W).mono ?_
    rintro e w' ⟨v, rfl, ho, hb⟩
    have e1 : (⟨#[97, 240, 159, 152, 128]⟩ : ByteArray).data.toList = [97, 240, 159, 152, 128] := rfl
    rw [e1, a1] at ho
    rw [e1, b1]
    exact ⟨v, rfl, ho, hb⟩
  have k2 : ∀ W, Calls Try.prog 10 #[.string ⟨#[97, 255]⟩] W fun e w' => ∃ v, e = .returned (.tuple #[v, .int .i64 11]) ∧ Below W.heap.size W w' := by
    intro W
    refine (utf_All_any ⟨#[97, 255]⟩ (by decide) W).mono ?_
    rintro e w' ⟨v, rfl, ho, hb⟩
    have e1 : (⟨#[97, 255]⟩ : ByteArray).data.toList = [97, 255] := rfl
    rw [e1, b2]
    exact ⟨v, rfl, hb⟩
  have k3 : ∀ W, Calls Try.prog 13 #[.string ⟨#[97, 255, 195, 169]⟩] W fun e w' => e = .returned (.int .i64 3) ∧ Below W.heap.size W w' := fun W =>
    (utf_Count_any ⟨#[97, 255, 195, 169]⟩ (by decide) W).lit (by rw [show (⟨#[97, 255, 195, 169]⟩ : ByteArray).data.toList = [97, 255, 195, 169] from rfl, sc3]; rfl)
  have k4 : ∀ W, Calls Try.prog 17 #[.string ⟨#[97, 195, 169]⟩, .int .i64 2] W fun e w' => e = .returned (.string ⟨#[97]⟩) ∧ Below W.heap.size W w' := fun W =>
    (utf_Cut_any ⟨#[97, 195, 169]⟩ (by decide) 2 (by omega) W).lit (by rw [show (⟨#[97, 195, 169]⟩ : ByteArray).data.toList = [97, 195, 169] from rfl, c4]; rfl)
  have k5 : ∀ W, Calls Try.prog 21 #[.string ⟨#[97, 32, 98]⟩] W fun e w' => e = .returned (.bool true) ∧ Below W.heap.size W w' := fun W =>
    (utf_Plain_any ⟨#[97, 32, 98]⟩ (by decide) W).lit (by rw [show (⟨#[97, 32, 98]⟩ : ByteArray).data.toList = [97, 32, 98] from rfl, p5])
  have k6 : ∀ W, Calls Try.prog 21 #[.string ⟨#[97, 127]⟩] W fun e w' => e = .returned (.bool false) ∧ Below W.heap.size W w' := fun W =>
    (utf_Plain_any ⟨#[97, 127]⟩ (by decide) W).lit (by rw [show (⟨#[97, 127]⟩ : ByteArray).data.toList = [97, 127] from rfl, p6])
  have k7 : ∀ W, Calls Try.prog 15 #[.string ⟨#[]⟩] W fun e w' => e = .returned (.int .i64 0) ∧ Below W.heap.size W w' := fun W =>
    (utf_Check_any ⟨#[]⟩ (by decide) W).lit (by rw [show (⟨#[]⟩ : ByteArray).data.toList = [] from rfl, uBad_nil]; rfl)
  have k8 : ∀ W, Calls Try.prog 19 #[.string ⟨#[97, 66, 90, 195]⟩] W fun e w' => e = .returned (.string ⟨#[97, 98, 122, 195]⟩) ∧ Below W.heap.size W w' := fun W =>
    (utf_Low_any ⟨#[97, 66, 90, 195]⟩ (by decide) W).lit (by kernel_rfl)
  clear a1 b1 b2 c4 p5 p6
  go_enter Try.func7, Try.ntmps7
  go_wp2_with fail
  refine ((utf_Next_any _ (by decide) _).lit (v' := .tuple #[.int .i64 233, .int .i64 2]) (by kernel_rfl)).mono ?_; rintro e w1 ⟨rfl, hb⟩
  go_wp2_with fail
  refine ((utf_Next_any _ (by decide) _).lit (v' := .tuple #[.int .i64 (-1), .int .i64 1]) (by kernel_rfl)).mono ?_; rintro e w2 ⟨rfl, hb2⟩; replace hb := hb.step hb2
  go_wp2_with fail
  refine ((utf_Put_any _ _).lit (v' := .tuple #[.string ⟨#[226, 130, 172]⟩, .int .i64 0]) (by kernel_rfl)).mono ?_; rintro e w3 ⟨rfl, hb2⟩; replace hb := hb.step hb2
  go_wp2_with fail
  refine ((utf_Put_any _ _).lit (v' := .tuple #[.string ⟨#[]⟩, .int .i64 8]) (by kernel_rfl)).mono ?_; rintro e w4 ⟨rfl, hb2⟩; replace hb := hb.step hb2
  go_wp2_with fail
  refine (k1 _).mono ?_; rintro e w5 ⟨v5, rfl, ho5, hb2⟩; replace hb := hb.step hb2
  go_wp2_with fail
  refine (k2 _).mono ?_; rintro e w6 ⟨v6, rfl, hb6⟩; replace hb := hb.step hb6
  replace ho5 := own_below ho5 hb6 (Nat.le_refl _)
  clear hb2 hb6
  go_wp2_with fail
  have hrd := (Bk.new w6 3 (iCells [97, 233])).rd
  refine ((utf_Of_any _ [97, 233] 2 (by decide) _ hrd).lit (v' := .tuple #[.string ⟨#[97, 195, 169]⟩, .int .i64 0]) (by kernel_rfl)).mono ?_; rintro e w7 ⟨rfl, hb7⟩
  replace hb := (hb.alloc1 _).step hb7
  replace ho5 := own_below (ho5.alloc _) hb7 (Nat.le_refl _)
  clear hrd hb7
  go_upto_region 8 with fail
  (try dsimp only [List.append])
  go_wp2_with fail
  obtain ⟨A5, c5, rfl⟩ := own_form ho5
  have r1 := own_rd (ho5.alloc (.cells #[Value.int .i64 97, Value.int .i64 128512] 3))
  have r2 := (Bk.new w7 3 (ints [97, 128512])).rd
  refine (SameInts_any _ _ c5 2 [97, 128512] [97, 128512] _ (by decide) r1 r2).mono ?_; rintro e w8 ⟨rfl, n8, rfl⟩
  replace hb := (hb.alloc1 (.cells #[Value.int .i64 97, Value.int .i64 128512] 3)).drewN n8
  clear r1 r2 ho5
  generalize World.drewN _ n8 = w8 at *
  go_wp2_with fail
  refine (k3 _).mono ?_; rintro e w9 ⟨rfl, hb9⟩; replace hb := hb.step hb9; clear hb9
  go_wp2_with fail
  refine (k4 _).mono ?_; rintro e w10 ⟨rfl, hb9⟩; replace hb := hb.step hb9; clear hb9
  go_wp2_with fail
  refine (k8 _).mono ?_; rintro e w11 ⟨rfl, hb9⟩; replace hb := hb.step hb9; clear hb9
  go_wp2_with fail
  refine (k5 _).mono ?_; rintro e w12 ⟨rfl, hb9⟩; replace hb := hb.step hb9; clear hb9
  go_wp2_with fail
  refine (k6 _).mono ?_; rintro e w13 ⟨rfl, hb9⟩; replace hb := hb.step hb9; clear hb9
  go_wp2_with fail
  refine (k7 _).mono ?_; rintro e w14 ⟨rfl, hb9⟩; replace hb := hb.step hb9; clear hb9
  go_wp2_with fail
  go_ret
  exact ⟨rfl, hb⟩
end Go.Proofs.Ytonokkcnbbljoaa
