/- callboylaw09.awake answers true. -/
import Derived.Test.YtmncjoihhdefcaaAdr6
namespace Go.Proofs.Ytmncjoihhdefcaa
open Go.RowKit Go.Shelf
set_option linter.unusedSimpArgs false
set_option linter.unusedVariables false

/-- the same, with fuel: to be reckoned at closed texts -/
def uScanF : Nat → List UInt8 → List (Int × Nat)
  | 0, _ => []
  | n + 1, s => if s = [] then [] else uNext s :: uScanF n (s.drop (uNext s).2)
theorem uScan_fuel (n : Nat) : ∀ s : List UInt8, s.length ≤ n → uScan s = uScanF n s := by
  induction n with
  | zero =>
    intro s h
    obtain rfl : s = [] := List.eq_nil_of_length_eq_zero (by omega)
    rw [uScan_nil]; rfl
  | succ n ih =>
    intro s h
    unfold uScanF
    by_cases hs : s = []
    · rw [if_pos hs, hs, uScan_nil]
    · rw [if_neg hs, uScan_cons s hs, ih _ (by have := drop_lt s hs; omega)]
def plF (s : List UInt8) : Bool := (uScanF s.length s).all fun x => !uCtl x.1
theorem plF_eq (s : List UInt8) : uPlain s = plF s := by
  unfold uPlain plF
  rw [uScan_fuel s.length s (Nat.le_refl _)]
theorem p1_09 : aParse [65, 110, 110, 64, 72, 111, 109, 101, 46, 111, 114, 103, 47, 68, 101, 32, 115, 107] = (([97, 110, 110], [104, 111, 109, 101, 46, 111, 114, 103], [68, 101, 32, 115, 107]), 0) := by unfold aParse aCheck aName; simp only [plF_eq]; decide +kernel
theorem p2_09 : aParse [97, 110, 110] = (([], [], []), 4) := by unfold aParse aCheck aName; simp only [plF_eq]; decide +kernel
theorem p3_09 : aParse [97, 32, 98, 64, 99] = (([], [], []), 11) := by unfold aParse aCheck aName; simp only [plF_eq]; decide +kernel
theorem p4_09 : aParse [97, 64, 98, 47] = (([], [], []), 4) := by unfold aParse aCheck aName; simp only [plF_eq]; decide +kernel
theorem p5_09 : aParse [97, 64, 46, 98] = (([], [], []), 11) := by unfold aParse aCheck aName; simp only [plF_eq]; decide +kernel
theorem p6_09 : aParse [97, 64, 98, 98, 98, 98, 98, 98, 98, 98, 98, 98, 98, 98, 98, 98, 98, 98, 98] = (([], [], []), 5) := by unfold aParse aCheck aName; simp only [plF_eq]; decide +kernel
theorem p7_09 : aParse [97, 64, 98] = (([97], [98], []), 0) := by unfold aParse aCheck aName; simp only [plF_eq]; decide +kernel
theorem p8_09 : aParse [97, 64, 98, 47, 99] = (([97], [98], [99]), 0) := by unfold aParse aCheck aName; simp only [plF_eq]; decide +kernel
theorem p9_09 : aParse [65, 64, 98] = (([97], [98], []), 0) := by unfold aParse aCheck aName; simp only [plF_eq]; decide +kernel
theorem p10_09 : aParse [97, 110, 110, 64, 104, 111, 109, 101, 46, 111, 114, 103, 47, 68, 101, 32, 115, 107] = (([97, 110, 110], [104, 111, 109, 101, 46, 111, 114, 103], [68, 101, 32, 115, 107]), 0) := by unfold aParse aCheck aName; simp only [plF_eq]; decide +kernel
theorem c1_09 : aCheck [97, 110, 110] [104, 111, 109, 101, 46, 111, 114, 103] [68, 101, 32, 115, 107] = 0 := by unfold aCheck aName; simp only [plF_eq]; decide +kernel
theorem r1_09 : aRes [99, 47, 100] = 0 := by unfold aRes; simp only [plF_eq]; decide +kernel
theorem r2_09 : aRes [10] = 11 := by unfold aRes; simp only [plF_eq]; decide +kernel
set_option maxRecDepth 1000000 in
set_option maxHeartbeats 8000000 in
theorem awake09 (w : World) (hm : MW w) : Calls Try.prog 7 #[] w fun e w' => e = .returned (.bool true) ∧ Below w.heap.size w w' := by
  have kp1 : ∀ W, MW W → Calls Try.prog 8 #[.string ⟨#[65, 110, 110, 64, 72, 111, 109, 101, 46, 111, 114, 103, 47, 68, 101, 32, 115, 107]⟩] W fun e w' => e = .returned (.tuple #[.agg #[.string ⟨#[97, 110, 110]⟩, .string ⟨#[104, 111, 109, 101, 46, 111, 114, 103]⟩, .string ⟨#[68, 101, 32, 115, 107]⟩], .int .i64 0]) ∧ Below W.heap.size W w' := fun W hW =>
    (addr_Parse_any ⟨#[65, 110, 110, 64, 72, 111, 109, 101, 46, 111, 114, 103, 47, 68, 101, 32, 115, 107]⟩ (by decide) W hW).lit (by rw [show (⟨#[65, 110, 110, 64, 72, 111, 109, 101, 46, 111, 114, 103, 47, 68, 101, 32, 115, 107]⟩ : ByteArray).data.toList = [65, 110, 110, 64, 72, 111, 109, 101, 46, 111, 114, 103, 47, 68, 101, 32, 115, 107] from rfl, p1_09]; rfl)
  have kp2 : ∀ W, MW W → Calls Try.prog 8 #[.string ⟨#[97, 110, 110]⟩] W fun e w' => e = .returned (.tuple #[.agg #[.string ⟨#[]⟩, .string ⟨#[]⟩, .string ⟨#[]⟩], .int .i64 4]) ∧ Below W.heap.size W w' := fun W hW =>
    (addr_Parse_any ⟨#[97, 110, 110]⟩ (by decide) W hW).lit (by rw [show (⟨#[97, 110, 110]⟩ : ByteArray).data.toList = [97, 110, 110] from rfl, p2_09]; rfl)
  have kp3 : ∀ W, MW W → Calls Try.prog 8 #[.string ⟨#[97, 32, 98, 64, 99]⟩] W fun e w' => e = .returned (.tuple #[.agg #[.string ⟨#[]⟩, .string ⟨#[]⟩, .string ⟨#[]⟩], .int .i64 11]) ∧ Below W.heap.size W w' := fun W hW =>
    (addr_Parse_any ⟨#[97, 32, 98, 64, 99]⟩ (by decide) W hW).lit (by rw [show (⟨#[97, 32, 98, 64, 99]⟩ : ByteArray).data.toList = [97, 32, 98, 64, 99] from rfl, p3_09]; rfl)
  have kp4 : ∀ W, MW W → Calls Try.prog 8 #[.string ⟨#[97, 64, 98, 47]⟩] W fun e w' => e = .returned (.tuple #[.agg #[.string ⟨#[]⟩, .string ⟨#[]⟩, .string ⟨#[]⟩], .int .i64 4]) ∧ Below W.heap.size W w' := fun W hW =>
    (addr_Parse_any ⟨#[97, 64, 98, 47]⟩ (by decide) W hW).lit (by rw [show (⟨#[97, 64, 98, 47]⟩ : ByteArray).data.toList = [97, 64, 98, 47] from rfl, p4_09]; rfl)
  have kp5 : ∀ W, MW W → Calls Try.prog 8 #[.string ⟨#[97, 64, 46, 98]⟩] W fun e w' => e = .returned (.tuple #[.agg #[.string ⟨#[]⟩, .string ⟨#[]⟩, .string ⟨#[]⟩], .int .i64 11]) ∧ Below W.heap.size W w' := fun W hW =>
    (addr_Parse_any ⟨#[97, 64, 46, 98]⟩ (by decide) W hW).lit (by rw [show (⟨#[97, 64, 46, 98]⟩ : ByteArray).data.toList = [97, 64, 46, 98] from rfl, p5_09]; rfl)
  have kp6 : ∀ W, MW W → Calls Try.prog 8 #[.string ⟨#[97, 64, 98, 98, 98, 98, 98, 98, 98, 98, 98, 98, 98, 98, 98, 98, 98, 98, 98]⟩] W fun e w' => e = .returned (.tuple #[.agg #[.string ⟨#[]⟩, .string ⟨#[]⟩, .string ⟨#[]⟩], .int .i64 5]) ∧ Below W.heap.size W w' := fun W hW =>
    (addr_Parse_any ⟨#[97, 64, 98, 98, 98, 98, 98, 98, 98, 98, 98, 98, 98, 98, 98, 98, 98, 98, 98]⟩ (by decide) W hW).lit (by rw [show (⟨#[97, 64, 98, 98, 98, 98, 98, 98, 98, 98, 98, 98, 98, 98, 98, 98, 98, 98, 98]⟩ : ByteArray).data.toList = [97, 64, 98, 98, 98, 98, 98, 98, 98, 98, 98, 98, 98, 98, 98, 98, 98, 98, 98] from rfl, p6_09]; rfl)
  have kpr : ∀ W, MW W → Calls Try.prog 18 #[.agg #[.string ⟨#[97, 110, 110]⟩, .string ⟨#[104, 111, 109, 101, 46, 111, 114, 103]⟩, .string ⟨#[68, 101, 32, 115, 107]⟩]] W fun e w' => e = .returned (.tuple #[.string ⟨#[97, 110, 110, 64, 104, 111, 109, 101, 46, 111, 114, 103, 47, 68, 101, 32, 115, 107]⟩, .int .i64 0]) ∧ Below W.heap.size W w' := fun W hW =>
    (addr_Print_any ⟨#[97, 110, 110]⟩ ⟨#[104, 111, 109, 101, 46, 111, 114, 103]⟩ ⟨#[68, 101, 32, 115, 107]⟩ (by decide) (by decide) (by decide) W hW).lit (by rw [show (⟨#[97, 110, 110]⟩ : ByteArray).data.toList = [97, 110, 110] from rfl, show (⟨#[104, 111, 109, 101, 46, 111, 114, 103]⟩ : ByteArray).data.toList = [104, 111, 109, 101, 46, 111, 114, 103] from rfl, show (⟨#[68, 101, 32, 115, 107]⟩ : ByteArray).data.toList = [68, 101, 32, 115, 107] from rfl, aPrint_ok _ _ _ c1_09]; rfl)
  have kba : ∀ W, MW W → Calls Try.prog 10 #[.string ⟨#[97, 110, 110, 64, 104, 111, 109, 101, 46, 111, 114, 103, 47, 68, 101, 32, 115, 107]⟩] W fun e w' => e = .returned (.tuple #[.string ⟨#[97, 110, 110, 64, 104, 111, 109, 101, 46, 111, 114, 103]⟩, .int .i64 0]) ∧ Below W.heap.size W w' := fun W hW =>
    (addr_Bare_any ⟨#[97, 110, 110, 64, 104, 111, 109, 101, 46, 111, 114, 103, 47, 68, 101, 32, 115, 107]⟩ (by decide) W hW).lit (by unfold aBare; rw [show (⟨#[97, 110, 110, 64, 104, 111, 109, 101, 46, 111, 114, 103, 47, 68, 101, 32, 115, 107]⟩ : ByteArray).data.toList = [97, 110, 110, 64, 104, 111, 109, 101, 46, 111, 114, 103, 47, 68, 101, 32, 115, 107] from rfl, p10_09]; rfl)
  have kf1 : ∀ W, MW W → Calls Try.prog 12 #[.string ⟨#[97, 64, 98]⟩, .string ⟨#[99, 47, 100]⟩] W fun e w' => e = .returned (.tuple #[.string ⟨#[97, 64, 98, 47, 99, 47, 100]⟩, .int .i64 0]) ∧ Below W.heap.size W w' := fun W hW =>
    (addr_Full_any ⟨#[97, 64, 98]⟩ ⟨#[99, 47, 100]⟩ (by decide) (by decide) W hW).lit (by unfold aFull; rw [show (⟨#[97, 64, 98]⟩ : ByteArray).data.toList = [97, 64, 98] from rfl, show (⟨#[99, 47, 100]⟩ : ByteArray).data.toList = [99, 47, 100] from rfl, p7_09, r1_09]; rfl)
  have kf2 : ∀ W, MW W → Calls Try.prog 12 #[.string ⟨#[97, 64, 98, 47, 99]⟩, .string ⟨#[100]⟩] W fun e w' => e = .returned (.tuple #[.string ⟨#[]⟩, .int .i64 4]) ∧ Below W.heap.size W w' := fun W hW =>
    (addr_Full_any ⟨#[97, 64, 98, 47, 99]⟩ ⟨#[100]⟩ (by decide) (by decide) W hW).lit (by unfold aFull; rw [show (⟨#[97, 64, 98, 47, 99]⟩ : ByteArray).data.toList = [97, 64, 98, 47, 99] from rfl, p8_09]; rfl)
  have ki1 : ∀ W, MW W → Calls Try.prog 14 #[.string ⟨#[97, 64, 98]⟩] W fun e w' => e = .returned (.bool true) ∧ Below W.heap.size W w' := fun W hW =>
    (addr_IsBare_any ⟨#[97, 64, 98]⟩ (by decide) W hW).lit (by unfold aIsBare aBare; rw [show (⟨#[97, 64, 98]⟩ : ByteArray).data.toList = [97, 64, 98] from rfl, p7_09]; rfl)
  have ki2 : ∀ W, MW W → Calls Try.prog 14 #[.string ⟨#[65, 64, 98]⟩] W fun e w' => e = .returned (.bool false) ∧ Below W.heap.size W w' := fun W hW =>
    (addr_IsBare_any ⟨#[65, 64, 98]⟩ (by decide) W hW).lit (by unfold aIsBare aBare; rw [show (⟨#[65, 64, 98]⟩ : ByteArray).data.toList = [65, 64, 98] from rfl, p9_09]; rfl)
  have ki3 : ∀ W, MW W → Calls Try.prog 14 #[.string ⟨#[97, 110, 110, 64, 104, 111, 109, 101, 46, 111, 114, 103, 47, 68, 101, 32, 115, 107]⟩] W fun e w' => e = .returned (.bool false) ∧ Below W.heap.size W w' := fun W hW =>
    (addr_IsBare_any ⟨#[97, 110, 110, 64, 104, 111, 109, 101, 46, 111, 114, 103, 47, 68, 101, 32, 115, 107]⟩ (by decide) W hW).lit (by unfold aIsBare aBare; rw [show (⟨#[97, 110, 110, 64, 104, 111, 109, 101, 46, 111, 114, 103, 47, 68, 101, 32, 115, 107]⟩ : ByteArray).data.toList = [97, 110, 110, 64, 104, 111, 109, 101, 46, 111, 114, 103, 47, 68, 101, 32, 115, 107] from rfl, p10_09]; rfl)
  have kle : ∀ W, Calls Try.prog 22 #[.agg #[.string ⟨#[97]⟩, .string ⟨#[122]⟩, .string ⟨#[]⟩], .agg #[.string ⟨#[98]⟩, .string ⟨#[]⟩, .string ⟨#[]⟩]] W fun e w' => e = .returned (.bool true) ∧ Below W.heap.size W w' := fun W =>
    (addr_Less_any ⟨#[97]⟩ ⟨#[122]⟩ ⟨#[]⟩ ⟨#[98]⟩ ⟨#[]⟩ ⟨#[]⟩ W).lit (by kernel_rfl)
  have ks1 : ∀ W, Calls Try.prog 24 #[.agg #[.string ⟨#[97, 110, 110]⟩, .string ⟨#[104, 111, 109, 101, 46, 111, 114, 103]⟩, .string ⟨#[68, 101, 32, 115, 107]⟩], .agg #[.string ⟨#[97, 110, 110]⟩, .string ⟨#[104, 111, 109, 101, 46, 111, 114, 103]⟩, .string ⟨#[68, 101, 32, 115, 107]⟩]] W fun e w' => e = .returned (.bool true) ∧ Below W.heap.size W w' := fun W =>
    (addr_Same_any ⟨#[97, 110, 110]⟩ ⟨#[104, 111, 109, 101, 46, 111, 114, 103]⟩ ⟨#[68, 101, 32, 115, 107]⟩ ⟨#[97, 110, 110]⟩ ⟨#[104, 111, 109, 101, 46, 111, 114, 103]⟩ ⟨#[68, 101, 32, 115, 107]⟩ W).lit (by kernel_rfl)
  have ks2 : ∀ W, Calls Try.prog 24 #[.agg #[.string ⟨#[97, 110, 110]⟩, .string ⟨#[104, 111, 109, 101, 46, 111, 114, 103]⟩, .string ⟨#[68, 101, 32, 115, 107]⟩], .agg #[.string ⟨#[]⟩, .string ⟨#[]⟩, .string ⟨#[]⟩]] W fun e w' => e = .returned (.bool false) ∧ Below W.heap.size W w' := fun W =>
    (addr_Same_any ⟨#[97, 110, 110]⟩ ⟨#[104, 111, 109, 101, 46, 111, 114, 103]⟩ ⟨#[68, 101, 32, 115, 107]⟩ ⟨#[]⟩ ⟨#[]⟩ ⟨#[]⟩ W).lit (by kernel_rfl)
  have kre : ∀ W, Calls Try.prog 16 #[.string ⟨#[10]⟩] W fun e w' => e = .returned (.int .i64 11) ∧ Below W.heap.size W w' := fun W =>
    (addr_Resource_any ⟨#[10]⟩ (by decide) W).lit (by rw [show (⟨#[10]⟩ : ByteArray).data.toList = [10] from rfl, r2_09])
  have kch : ∀ W, MW W → Calls Try.prog 20 #[.agg #[.string ⟨#[97, 110, 110]⟩, .string ⟨#[104, 111, 109, 101, 46, 111, 114, 103]⟩, .string ⟨#[68, 101, 32, 115, 107]⟩]] W fun e w' => e = .returned (.int .i64 0) ∧ Below W.heap.size W w' := fun W hW =>
    (addr_Check_any ⟨#[97, 110, 110]⟩ ⟨#[104, 111, 109, 101, 46, 111, 114, 103]⟩ ⟨#[68, 101, 32, 115, 107]⟩ (by decide) (by decide) (by decide) W hW).lit (by rw [show (⟨#[97, 110, 110]⟩ : ByteArray).data.toList = [97, 110, 110] from rfl, show (⟨#[104, 111, 109, 101, 46, 111, 114, 103]⟩ : ByteArray).data.toList = [104, 111, 109, 101, 46, 111, 114, 103] from rfl, show (⟨#[68, 101, 32, 115, 107]⟩ : ByteArray).data.toList = [68, 101, 32, 115, 107] from rfl, c1_09])
  go_enter Try.func7, Try.ntmps7
  go_wp2_with fail
  refine (kp1 _ hm).mono ?_; rintro e w1 ⟨rfl, h1⟩
  have hb := h1
  replace hm := hm.step h1
  clear h1
  go_wp2_with fail
  generalize hV : World.alloc w1 _ = w2
  have h2 : Below w1.heap.size w1 w2 := by subst hV; (repeat (first | with_reducible exact Below.refl _ _ | with_reducible assumption | with_reducible refine Below.drew ?_ | with_reducible refine Below.drewN ?_ _ | with_reducible refine Below.alloc1 ?_ _ | with_reducible refine Below.setCell1 ?_ (by first | omega | (simp; done) | (simp; omega)) _ | with_reducible refine Below.step ?_ (by with_reducible assumption)))
  have q0 : Bk w2 w1.heap.size 24 [.string ⟨#[97, 110, 110]⟩, .string ⟨#[104, 111, 109, 101, 46, 111, 114, 103]⟩, .string ⟨#[68, 101, 32, 115, 107]⟩] := by subst hV; exact Bk.new w1 _ _
  clear hV
  replace hb := hb.step h2
  replace hm := hm.step h2
  have q0_0 := q0.cell 0; have q0_f0 := q0.frozen 0; have q0_1 := q0.cell 1; have q0_f1 := q0.frozen 1; have q0_2 := q0.cell 2; have q0_f2 := q0.frozen 2; simp only [List.set_cons_zero, List.set_cons_succ, List.getElem?_cons_zero, List.getElem?_cons_succ] at q0_0 q0_1 q0_2; have lt_q0 := q0.lt
  clear h2
  refine (kpr _ hm).mono ?_; rintro e w3 ⟨rfl, h3⟩
  replace hb := hb.step h3
  replace hm := hm.step h3
  replace q0 := q0.step h3; (try clear q0_0 q0_f0 q0_1 q0_f1 q0_2 q0_f2); have q0_0 := q0.cell 0; have q0_f0 := q0.frozen 0; have q0_1 := q0.cell 1; have q0_f1 := q0.frozen 1; have q0_2 := q0.cell 2; have q0_f2 := q0.frozen 2; simp only [List.set_cons_zero, List.set_cons_succ, List.getElem?_cons_zero, List.getElem?_cons_succ] at q0_0 q0_1 q0_2; (try clear lt_q0); have lt_q0 := q0.lt
  clear h3
  go_wp2_with fail
  refine (kba _ hm).mono ?_; rintro e w4 ⟨rfl, h4⟩
  replace hb := hb.step h4
  replace hm := hm.step h4
  replace q0 := q0.step h4; (try clear q0_0 q0_f0 q0_1 q0_f1 q0_2 q0_f2); have q0_0 := q0.cell 0; have q0_f0 := q0.frozen 0; have q0_1 := q0.cell 1; have q0_f1 := q0.frozen 1; have q0_2 := q0.cell 2; have q0_f2 := q0.frozen 2; simp only [List.set_cons_zero, List.set_cons_succ, List.getElem?_cons_zero, List.getElem?_cons_succ] at q0_0 q0_1 q0_2; (try clear lt_q0); have lt_q0 := q0.lt
  clear h4
  go_wp2_with fail
  refine (kp2 _ hm).mono ?_; rintro e w5 ⟨rfl, h5⟩
  replace hb := hb.step h5
  replace hm := hm.step h5
  replace q0 := q0.step h5; (try clear q0_0 q0_f0 q0_1 q0_f1 q0_2 q0_f2); have q0_0 := q0.cell 0; have q0_f0 := q0.frozen 0; have q0_1 := q0.cell 1; have q0_f1 := q0.frozen 1; have q0_2 := q0.cell 2; have q0_f2 := q0.frozen 2; simp only [List.set_cons_zero, List.set_cons_succ, List.getElem?_cons_zero, List.getElem?_cons_succ] at q0_0 q0_1 q0_2; (try clear lt_q0); have lt_q0 := q0.lt
  clear h5
  go_wp2_with fail
  generalize hV : World.alloc w5 _ = w6
  have h6 : Below w5.heap.size w5 w6 := by subst hV; (repeat (first | with_reducible exact Below.refl _ _ | with_reducible assumption | with_reducible refine Below.drew ?_ | with_reducible refine Below.drewN ?_ _ | with_reducible refine Below.alloc1 ?_ _ | with_reducible refine Below.setCell1 ?_ (by first | omega | (simp; done) | (simp; omega)) _ | with_reducible refine Below.step ?_ (by with_reducible assumption)))
  clear hV
  replace hb := hb.step h6
  replace hm := hm.step h6
  replace q0 := q0.step h6; (try clear q0_0 q0_f0 q0_1 q0_f1 q0_2 q0_f2); have q0_0 := q0.cell 0; have q0_f0 := q0.frozen 0; have q0_1 := q0.cell 1; have q0_f1 := q0.frozen 1; have q0_2 := q0.cell 2; have q0_f2 := q0.frozen 2; simp only [List.set_cons_zero, List.set_cons_succ, List.getElem?_cons_zero, List.getElem?_cons_succ] at q0_0 q0_1 q0_2; (try clear lt_q0); have lt_q0 := q0.lt
  clear h6
  refine (kp3 _ hm).mono ?_; rintro e w7 ⟨rfl, h7⟩
  replace hb := hb.step h7
  replace hm := hm.step h7
  replace q0 := q0.step h7; (try clear q0_0 q0_f0 q0_1 q0_f1 q0_2 q0_f2); have q0_0 := q0.cell 0; have q0_f0 := q0.frozen 0; have q0_1 := q0.cell 1; have q0_f1 := q0.frozen 1; have q0_2 := q0.cell 2; have q0_f2 := q0.frozen 2; simp only [List.set_cons_zero, List.set_cons_succ, List.getElem?_cons_zero, List.getElem?_cons_succ] at q0_0 q0_1 q0_2; (try clear lt_q0); have lt_q0 := q0.lt
  clear h7
  go_wp2_with fail
  generalize hV : World.alloc w7 _ = w8
  have h8 : Below w7.heap.size w7 w8 := by subst hV; (repeat (first | with_reducible exact Below.refl _ _ | with_reducible assumption | with_reducible refine Below.drew ?_ | with_reducible refine Below.drewN ?_ _ | with_reducible refine Below.alloc1 ?_ _ | with_reducible refine Below.setCell1 ?_ (by first | omega | (simp; done) | (simp; omega)) _ | with_reducible refine Below.step ?_ (by with_reducible assumption)))
  clear hV
  replace hb := hb.step h8
  replace hm := hm.step h8
  replace q0 := q0.step h8; (try clear q0_0 q0_f0 q0_1 q0_f1 q0_2 q0_f2); have q0_0 := q0.cell 0; have q0_f0 := q0.frozen 0; have q0_1 := q0.cell 1; have q0_f1 := q0.frozen 1; have q0_2 := q0.cell 2; have q0_f2 := q0.frozen 2; simp only [List.set_cons_zero, List.set_cons_succ, List.getElem?_cons_zero, List.getElem?_cons_succ] at q0_0 q0_1 q0_2; (try clear lt_q0); have lt_q0 := q0.lt
  clear h8
  refine (kp4 _ hm).mono ?_; rintro e w9 ⟨rfl, h9⟩
  replace hb := hb.step h9
  replace hm := hm.step h9
  replace q0 := q0.step h9; (try clear q0_0 q0_f0 q0_1 q0_f1 q0_2 q0_f2); have q0_0 := q0.cell 0; have q0_f0 := q0.frozen 0; have q0_1 := q0.cell 1; have q0_f1 := q0.frozen 1; have q0_2 := q0.cell 2; have q0_f2 := q0.frozen 2; simp only [List.set_cons_zero, List.set_cons_succ, List.getElem?_cons_zero, List.getElem?_cons_succ] at q0_0 q0_1 q0_2; (try clear lt_q0); have lt_q0 := q0.lt
  clear h9
  go_wp2_with fail
  generalize hV : World.alloc w9 _ = w10
  have h10 : Below w9.heap.size w9 w10 := by subst hV; (repeat (first | with_reducible exact Below.refl _ _ | with_reducible assumption | with_reducible refine Below.drew ?_ | with_reducible refine Below.drewN ?_ _ | with_reducible refine Below.alloc1 ?_ _ | with_reducible refine Below.setCell1 ?_ (by first | omega | (simp; done) | (simp; omega)) _ | with_reducible refine Below.step ?_ (by with_reducible assumption)))
  clear hV
  replace hb := hb.step h10
  replace hm := hm.step h10
  replace q0 := q0.step h10; (try clear q0_0 q0_f0 q0_1 q0_f1 q0_2 q0_f2); have q0_0 := q0.cell 0; have q0_f0 := q0.frozen 0; have q0_1 := q0.cell 1; have q0_f1 := q0.frozen 1; have q0_2 := q0.cell 2; have q0_f2 := q0.frozen 2; simp only [List.set_cons_zero, List.set_cons_succ, List.getElem?_cons_zero, List.getElem?_cons_succ] at q0_0 q0_1 q0_2; (try clear lt_q0); have lt_q0 := q0.lt
  clear h10
  refine (kp5 _ hm).mono ?_; rintro e w11 ⟨rfl, h11⟩
  replace hb := hb.step h11
  replace hm := hm.step h11
  replace q0 := q0.step h11; (try clear q0_0 q0_f0 q0_1 q0_f1 q0_2 q0_f2); have q0_0 := q0.cell 0; have q0_f0 := q0.frozen 0; have q0_1 := q0.cell 1; have q0_f1 := q0.frozen 1; have q0_2 := q0.cell 2; have q0_f2 := q0.frozen 2; simp only [List.set_cons_zero, List.set_cons_succ, List.getElem?_cons_zero, List.getElem?_cons_succ] at q0_0 q0_1 q0_2; (try clear lt_q0); have lt_q0 := q0.lt
  clear h11
  go_wp2_with fail
  generalize hV : World.alloc w11 _ = w12
  have h12 : Below w11.heap.size w11 w12 := by subst hV; (repeat (first | with_reducible exact Below.refl _ _ | with_reducible assumption | with_reducible refine Below.drew ?_ | with_reducible refine Below.drewN ?_ _ | with_reducible refine Below.alloc1 ?_ _ | with_reducible refine Below.setCell1 ?_ (by first | omega | (simp; done) | (simp; omega)) _ | with_reducible refine Below.step ?_ (by with_reducible assumption)))
  clear hV
  replace hb := hb.step h12
  replace hm := hm.step h12
  replace q0 := q0.step h12; (try clear q0_0 q0_f0 q0_1 q0_f1 q0_2 q0_f2); have q0_0 := q0.cell 0; have q0_f0 := q0.frozen 0; have q0_1 := q0.cell 1; have q0_f1 := q0.frozen 1; have q0_2 := q0.cell 2; have q0_f2 := q0.frozen 2; simp only [List.set_cons_zero, List.set_cons_succ, List.getElem?_cons_zero, List.getElem?_cons_succ] at q0_0 q0_1 q0_2; (try clear lt_q0); have lt_q0 := q0.lt
  clear h12
  refine (kf1 _ hm).mono ?_; rintro e w13 ⟨rfl, h13⟩
  replace hb := hb.step h13
  replace hm := hm.step h13
  replace q0 := q0.step h13; (try clear q0_0 q0_f0 q0_1 q0_f1 q0_2 q0_f2); have q0_0 := q0.cell 0; have q0_f0 := q0.frozen 0; have q0_1 := q0.cell 1; have q0_f1 := q0.frozen 1; have q0_2 := q0.cell 2; have q0_f2 := q0.frozen 2; simp only [List.set_cons_zero, List.set_cons_succ, List.getElem?_cons_zero, List.getElem?_cons_succ] at q0_0 q0_1 q0_2; (try clear lt_q0); have lt_q0 := q0.lt
  clear h13
  go_wp2_with fail
  refine (kf2 _ hm).mono ?_; rintro e w14 ⟨rfl, h14⟩
  replace hb := hb.step h14
  replace hm := hm.step h14
  replace q0 := q0.step h14; (try clear q0_0 q0_f0 q0_1 q0_f1 q0_2 q0_f2); have q0_0 := q0.cell 0; have q0_f0 := q0.frozen 0; have q0_1 := q0.cell 1; have q0_f1 := q0.frozen 1; have q0_2 := q0.cell 2; have q0_f2 := q0.frozen 2; simp only [List.set_cons_zero, List.set_cons_succ, List.getElem?_cons_zero, List.getElem?_cons_succ] at q0_0 q0_1 q0_2; (try clear lt_q0); have lt_q0 := q0.lt
  clear h14
  go_wp2_with fail
  refine (kp6 _ hm).mono ?_; rintro e w15 ⟨rfl, h15⟩
  replace hb := hb.step h15
  replace hm := hm.step h15
  replace q0 := q0.step h15; (try clear q0_0 q0_f0 q0_1 q0_f1 q0_2 q0_f2); have q0_0 := q0.cell 0; have q0_f0 := q0.frozen 0; have q0_1 := q0.cell 1; have q0_f1 := q0.frozen 1; have q0_2 := q0.cell 2; have q0_f2 := q0.frozen 2; simp only [List.set_cons_zero, List.set_cons_succ, List.getElem?_cons_zero, List.getElem?_cons_succ] at q0_0 q0_1 q0_2; (try clear lt_q0); have lt_q0 := q0.lt
  clear h15
  go_wp2_with fail
  generalize hV : World.alloc w15 _ = w16
  have h16 : Below w15.heap.size w15 w16 := by subst hV; (repeat (first | with_reducible exact Below.refl _ _ | with_reducible assumption | with_reducible refine Below.drew ?_ | with_reducible refine Below.drewN ?_ _ | with_reducible refine Below.alloc1 ?_ _ | with_reducible refine Below.setCell1 ?_ (by first | omega | (simp; done) | (simp; omega)) _ | with_reducible refine Below.step ?_ (by with_reducible assumption)))
  clear hV
  replace hb := hb.step h16
  replace hm := hm.step h16
  replace q0 := q0.step h16; (try clear q0_0 q0_f0 q0_1 q0_f1 q0_2 q0_f2); have q0_0 := q0.cell 0; have q0_f0 := q0.frozen 0; have q0_1 := q0.cell 1; have q0_f1 := q0.frozen 1; have q0_2 := q0.cell 2; have q0_f2 := q0.frozen 2; simp only [List.set_cons_zero, List.set_cons_succ, List.getElem?_cons_zero, List.getElem?_cons_succ] at q0_0 q0_1 q0_2; (try clear lt_q0); have lt_q0 := q0.lt
  clear h16
  refine (ki1 _ hm).mono ?_; rintro e w17 ⟨rfl, h17⟩
  replace hb := hb.step h17
  replace hm := hm.step h17
  replace q0 := q0.step h17; (try clear q0_0 q0_f0 q0_1 q0_f1 q0_2 q0_f2); have q0_0 := q0.cell 0; have q0_f0 := q0.frozen 0; have q0_1 := q0.cell 1; have q0_f1 := q0.frozen 1; have q0_2 := q0.cell 2; have q0_f2 := q0.frozen 2; simp only [List.set_cons_zero, List.set_cons_succ, List.getElem?_cons_zero, List.getElem?_cons_succ] at q0_0 q0_1 q0_2; (try clear lt_q0); have lt_q0 := q0.lt
  clear h17
  go_wp2_with fail
  refine (ki2 _ hm).mono ?_; rintro e w18 ⟨rfl, h18⟩
  replace hb := hb.step h18
  replace hm := hm.step h18
  replace q0 := q0.step h18; (try clear q0_0 q0_f0 q0_1 q0_f1 q0_2 q0_f2); have q0_0 := q0.cell 0; have q0_f0 := q0.frozen 0; have q0_1 := q0.cell 1; have q0_f1 := q0.frozen 1; have q0_2 := q0.cell 2; have q0_f2 := q0.frozen 2; simp only [List.set_cons_zero, List.set_cons_succ, List.getElem?_cons_zero, List.getElem?_cons_succ] at q0_0 q0_1 q0_2; (try clear lt_q0); have lt_q0 := q0.lt
  clear h18
  go_wp2_with fail
  refine (ki3 _ hm).mono ?_; rintro e w19 ⟨rfl, h19⟩
  replace hb := hb.step h19
  replace hm := hm.step h19
  replace q0 := q0.step h19; (try clear q0_0 q0_f0 q0_1 q0_f1 q0_2 q0_f2); have q0_0 := q0.cell 0; have q0_f0 := q0.frozen 0; have q0_1 := q0.cell 1; have q0_f1 := q0.frozen 1; have q0_2 := q0.cell 2; have q0_f2 := q0.frozen 2; simp only [List.set_cons_zero, List.set_cons_succ, List.getElem?_cons_zero, List.getElem?_cons_succ] at q0_0 q0_1 q0_2; (try clear lt_q0); have lt_q0 := q0.lt
  clear h19
  go_wp2_with fail
  refine (kle _).mono ?_; rintro e w20 ⟨rfl, h20⟩
  replace hb := hb.step h20
  replace hm := hm.step h20
  replace q0 := q0.step h20; (try clear q0_0 q0_f0 q0_1 q0_f1 q0_2 q0_f2); have q0_0 := q0.cell 0; have q0_f0 := q0.frozen 0; have q0_1 := q0.cell 1; have q0_f1 := q0.frozen 1; have q0_2 := q0.cell 2; have q0_f2 := q0.frozen 2; simp only [List.set_cons_zero, List.set_cons_succ, List.getElem?_cons_zero, List.getElem?_cons_succ] at q0_0 q0_1 q0_2; (try clear lt_q0); have lt_q0 := q0.lt
  clear h20
  go_wp2_with fail
  refine (ks1 _).mono ?_; rintro e w21 ⟨rfl, h21⟩
  replace hb := hb.step h21
  replace hm := hm.step h21
  replace q0 := q0.step h21; (try clear q0_0 q0_f0 q0_1 q0_f1 q0_2 q0_f2); have q0_0 := q0.cell 0; have q0_f0 := q0.frozen 0; have q0_1 := q0.cell 1; have q0_f1 := q0.frozen 1; have q0_2 := q0.cell 2; have q0_f2 := q0.frozen 2; simp only [List.set_cons_zero, List.set_cons_succ, List.getElem?_cons_zero, List.getElem?_cons_succ] at q0_0 q0_1 q0_2; (try clear lt_q0); have lt_q0 := q0.lt
  clear h21
  go_wp2_with fail
  refine (ks2 _).mono ?_; rintro e w22 ⟨rfl, h22⟩
  replace hb := hb.step h22
  replace hm := hm.step h22
  replace q0 := q0.step h22; (try clear q0_0 q0_f0 q0_1 q0_f1 q0_2 q0_f2); have q0_0 := q0.cell 0; have q0_f0 := q0.frozen 0; have q0_1 := q0.cell 1; have q0_f1 := q0.frozen 1; have q0_2 := q0.cell 2; have q0_f2 := q0.frozen 2; simp only [List.set_cons_zero, List.set_cons_succ, List.getElem?_cons_zero, List.getElem?_cons_succ] at q0_0 q0_1 q0_2; (try clear lt_q0); have lt_q0 := q0.lt
  clear h22
  go_wp2_with fail
  refine (kre _).mono ?_; rintro e w23 ⟨rfl, h23⟩
  replace hb := hb.step h23
  replace hm := hm.step h23
  replace q0 := q0.step h23; (try clear q0_0 q0_f0 q0_1 q0_f1 q0_2 q0_f2); have q0_0 := q0.cell 0; have q0_f0 := q0.frozen 0; have q0_1 := q0.cell 1; have q0_f1 := q0.frozen 1; have q0_2 := q0.cell 2; have q0_f2 := q0.frozen 2; simp only [List.set_cons_zero, List.set_cons_succ, List.getElem?_cons_zero, List.getElem?_cons_succ] at q0_0 q0_1 q0_2; (try clear lt_q0); have lt_q0 := q0.lt
  clear h23
  go_wp2_with fail
  refine (kch _ hm).mono ?_; rintro e w24 ⟨rfl, h24⟩
  replace hb := hb.step h24
  replace hm := hm.step h24
  replace q0 := q0.step h24; (try clear q0_0 q0_f0 q0_1 q0_f1 q0_2 q0_f2); have q0_0 := q0.cell 0; have q0_f0 := q0.frozen 0; have q0_1 := q0.cell 1; have q0_f1 := q0.frozen 1; have q0_2 := q0.cell 2; have q0_f2 := q0.frozen 2; simp only [List.set_cons_zero, List.set_cons_succ, List.getElem?_cons_zero, List.getElem?_cons_succ] at q0_0 q0_1 q0_2; (try clear lt_q0); have lt_q0 := q0.lt
  clear h24
  go_wp2_with fail
  go_ret
  exact ⟨rfl, hb⟩
end Go.Proofs.Ytmncjoihhdefcaa
