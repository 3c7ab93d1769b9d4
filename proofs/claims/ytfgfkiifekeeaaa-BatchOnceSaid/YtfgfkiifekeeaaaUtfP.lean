/- Plain law of package utf: bytes of characters, what is read of them. No program in sight. -/
import Derived.Test.YtfgfkiifekeeaaaUtf
namespace Go.Proofs.Ytfgfkiifekeeaaa
open Go.RowKit
set_option linter.unusedSimpArgs false
set_option linter.unusedVariables false

/-- a character's bytes -/
def uPutN (c : Nat) : List Nat :=
  if c < 128 then [c]
  else if c < 2048 then [192 + c / 64, 128 + c % 64]
  else if c < 65536 then [224 + c / 4096, 128 + c / 64 % 64, 128 + c % 64]
  else [240 + c / 262144, 128 + c / 4096 % 64, 128 + c / 64 % 64, 128 + c % 64]
def uPut (c : Int) : List UInt8 := (uPutN c.toNat).map UInt8.ofNat
theorem u8_of (k : Nat) (h : k < 256) : (UInt8.ofNat k).toNat = k := by
  rw [UInt8.toNat_ofNat']; exact Nat.mod_eq_of_lt h
theorem u8_ext (a b : UInt8) (h : a.toNat = b.toNat) : a = b := UInt8.toNat_inj.1 h
theorem u8_eq (b : UInt8) (k : Nat) (h : b.toNat = k) : UInt8.ofNat k = b := u8_ext _ _ (by rw [u8_of k (by have := b.toNat_lt; omega), h])
theorem uPutN_lt (c : Nat) (h : c ≤ 1114111) : ∀ k ∈ uPutN c, k < 256 := by
  intro k hk
  unfold uPutN at hk
  split at hk
  · simp at hk; omega
  split at hk
  · simp at hk; omega
  split at hk
  · simp at hk; omega
  · simp at hk; omega
theorem uChar_iff (c : Int) : uChar c = true ↔ 0 ≤ c ∧ c ≤ 1114111 ∧ (c < 55296 ∨ 57343 < c) := by unfold uChar; simp
theorem uPut_len (c : Int) : (uPut c).length = if c.toNat < 128 then 1 else if c.toNat < 2048 then 2 else if c.toNat < 65536 then 3 else 4 := by
  unfold uPut uPutN
  split
  · rfl
  split
  · rfl
  split
  · rfl
  · rfl
theorem uNext_put (c : Int) (hc : uChar c = true) (r : List UInt8) : uNext (uPut c ++ r) = (c, (uPut c).length) := by
  have hcc := hc
  rw [uChar_iff] at hc
  obtain ⟨m, rfl⟩ : ∃ m : Nat, c = (m : Int) := ⟨c.toNat, by omega⟩
  have hm : m ≤ 1114111 := by omega
  unfold uPut
  simp only [Int.toNat_natCast]
  unfold uPutN
  split
  · rename_i h1
    simp only [List.map_cons, List.map_nil, List.cons_append, List.nil_append, uNext, u8_of m (by omega), uForm, if_pos h1, List.take_zero, uIn, uMark, uFrom]
    simp [hcc]
  split
  · rename_i h1 h2
    have e1 := u8_of (192 + m / 64) (by omega)
    have e2 := u8_of (128 + m % 64) (by omega)
    have f1 : uForm (192 + m / 64) = some 1 := by
      unfold uForm; rw [if_neg (by omega), if_neg (by omega), if_pos (by omega)]
    simp only [List.map_cons, List.map_nil, List.cons_append, List.nil_append, uNext, e1, f1, List.length_cons, List.take_succ_cons, List.take_zero, uIn, e2, uMark, uFrom]
    rw [if_neg (by omega), if_pos (by omega)]
    have e3 : ((192 + m / 64 : Nat) : Int) - 192 = (m / 64 : Nat) := by omega
    have e4 : (((192 + m / 64 : Nat) : Int) - 192) * 64 + (((128 + m % 64 : Nat) : Int) - 128) = m := by omega
    simp only [e4, hcc]
    rw [if_neg (by simp; omega)]
    rfl
  split
  · rename_i h1 h2 h3
    have e1 := u8_of (224 + m / 4096) (by omega)
    have e2 := u8_of (128 + m / 64 % 64) (by omega)
    have e3 := u8_of (128 + m % 64) (by omega)
    have f1 : uForm (224 + m / 4096) = some 2 := by
      unfold uForm; rw [if_neg (by omega), if_neg (by omega), if_neg (by omega), if_pos (by omega)]
    simp only [List.map_cons, List.map_nil, List.cons_append, List.nil_append, uNext, e1, f1, List.length_cons, List.take_succ_cons, List.take_zero, uIn, e2, e3, uMark, uFrom]
    rw [if_neg (by omega), if_pos (by omega), if_pos (by omega)]
    have e4 : ((((224 + m / 4096 : Nat) : Int) - 224) * 64 + (((128 + m / 64 % 64 : Nat) : Int) - 128)) * 64 + (((128 + m % 64 : Nat) : Int) - 128) = m := by omega
    simp only [e4, hcc]
    rw [if_neg (by simp; omega)]
    rfl
  · rename_i h1 h2 h3
    have e1 := u8_of (240 + m / 262144) (by omega)
    have e2 := u8_of (128 + m / 4096 % 64) (by omega)
    have e2b := u8_of (128 + m / 64 % 64) (by omega)
    have e3 := u8_of (128 + m % 64) (by omega)
    have f1 : uForm (240 + m / 262144) = some 3 := by
      unfold uForm; rw [if_neg (by omega), if_neg (by omega), if_neg (by omega), if_neg (by omega), if_pos (by omega)]
    simp only [List.map_cons, List.map_nil, List.cons_append, List.nil_append, uNext, e1, f1, List.length_cons, List.take_succ_cons, List.take_zero, uIn, e2, e2b, e3, uMark, uFrom]
    rw [if_neg (by omega), if_pos (by omega), if_pos (by omega), if_pos (by omega)]
    have e4 : (((((240 + m / 262144 : Nat) : Int) - 240) * 64 + (((128 + m / 4096 % 64 : Nat) : Int) - 128)) * 64 + (((128 + m / 64 % 64 : Nat) : Int) - 128)) * 64 + (((128 + m % 64 : Nat) : Int) - 128) = m := by omega
    simp only [e4, hcc]
    rw [if_neg (by simp; omega)]
    rfl

theorem uForm_inv (b n : Nat) (h : uForm b = some n) : (n = 0 ∧ b < 128) ∨ (n = 1 ∧ 192 ≤ b ∧ b < 224) ∨ (n = 2 ∧ 224 ≤ b ∧ b < 240) ∨ (n = 3 ∧ 240 ≤ b ∧ b < 248) := by
  unfold uForm at h
  split at h
  · simp at h; omega
  split at h
  · simp at h
  split at h
  · simp at h; omega
  split at h
  · simp at h; omega
  split at h
  · simp at h; omega
  · simp at h
/-- what is read is laid so: or nothing is read -/
theorem uNext_inv (s : List UInt8) : (uNext s).1 = -1 ∧ (uNext s).2 = min 1 s.length ∨ uChar (uNext s).1 = true ∧ s.take (uNext s).2 = uPut (uNext s).1 ∧ (uNext s).2 = (uPut (uNext s).1).length := by
  rcases s with _ | ⟨b, r⟩
  · left; exact ⟨rfl, rfl⟩
  simp only [uNext]
  cases hf : uForm b.toNat with
  | none => left; exact ⟨rfl, by simp only [List.length_cons]; omega⟩
  | some n =>
    dsimp only
    by_cases hl : r.length < n
    · rw [if_pos hl]; left; exact ⟨rfl, by simp only [List.length_cons]; omega⟩
    rw [if_neg hl]
    cases hi : uIn (b.toNat - uMark n) (r.take n) with
    | none => left; exact ⟨rfl, by simp only [List.length_cons]; omega⟩
    | some c =>
      dsimp only
      by_cases hc : c < uFrom n ∨ uChar c = false
      · rw [if_pos hc]; left; exact ⟨rfl, by simp only [List.length_cons]; omega⟩
      rw [if_neg hc]
      right
      have hcc : uChar c = true := by
        cases h : uChar c
        · exact absurd (.inr h) hc
        · rfl
      have hfr : uFrom n ≤ c := by
        rcases Int.lt_or_le c (uFrom n) with h | h
        · exact absurd (.inl h) hc
        · exact h
      have hcb := (uChar_iff c).1 hcc
      dsimp only
      refine ⟨hcc, ?_⟩
      rcases uForm_inv _ _ hf with ⟨rfl, hb⟩ | ⟨rfl, hb1, hb2⟩ | ⟨rfl, hb1, hb2⟩ | ⟨rfl, hb1, hb2⟩
      · simp only [List.take_zero, uIn, uMark, Option.some.injEq] at hi
        have e : c.toNat = b.toNat := by omega
        have e2 : uPut c = [b] := by
          unfold uPut uPutN
          rw [e, if_pos hb, List.map_cons, List.map_nil, u8_eq b _ rfl]
        rw [e2]; exact ⟨rfl, rfl⟩
      · rcases r with _ | ⟨x, r⟩
        · simp at hl
        simp only [List.take_succ_cons, List.take_zero, uIn, uMark] at hi
        split at hi
        · rename_i hx
          simp only [Option.some.injEq] at hi
          simp only [uFrom] at hfr
          have e2 : uPut c = [b, x] := by
            unfold uPut uPutN
            rw [if_neg (by omega), if_pos (by omega)]
            simp only [List.map_cons, List.map_nil]
            rw [u8_eq b _ (by omega), u8_eq x _ (by omega)]
          rw [e2]; exact ⟨rfl, rfl⟩
        · simp at hi
      · rcases r with _ | ⟨x, _ | ⟨y, r⟩⟩
        · simp at hl
        · simp at hl
        simp only [List.take_succ_cons, List.take_zero, uIn, uMark] at hi
        split at hi
        · rename_i hx
          split at hi
          · rename_i hy
            simp only [Option.some.injEq] at hi
            simp only [uFrom] at hfr
            have e2 : uPut c = [b, x, y] := by
              unfold uPut uPutN
              rw [if_neg (by omega), if_neg (by omega), if_pos (by omega)]
              simp only [List.map_cons, List.map_nil]
              rw [u8_eq b _ (by omega), u8_eq x _ (by omega), u8_eq y _ (by omega)]
            rw [e2]; exact ⟨rfl, rfl⟩
          · simp at hi
        · simp at hi
      · rcases r with _ | ⟨x, _ | ⟨y, _ | ⟨z, r⟩⟩⟩
        · simp at hl
        · simp at hl
        · simp at hl
        simp only [List.take_succ_cons, List.take_zero, uIn, uMark] at hi
        split at hi
        · rename_i hx
          split at hi
          · rename_i hy
            split at hi
            · rename_i hz
              simp only [Option.some.injEq] at hi
              simp only [uFrom] at hfr
              have e2 : uPut c = [b, x, y, z] := by
                unfold uPut uPutN
                rw [if_neg (by omega), if_neg (by omega), if_neg (by omega)]
                simp only [List.map_cons, List.map_nil]
                rw [u8_eq b _ (by omega), u8_eq x _ (by omega), u8_eq y _ (by omega), u8_eq z _ (by omega)]
              rw [e2]; exact ⟨rfl, rfl⟩
            · simp at hi
          · simp at hi
        · simp at hi
theorem uPut_ne (c : Int) : 1 ≤ (uPut c).length ∧ (uPut c).length ≤ 4 := by
  rw [uPut_len]; repeat (first | split | (constructor <;> omega))
theorem uNext_size (s : List UInt8) : (uNext s).2 ≤ s.length ∧ (s ≠ [] → 1 ≤ (uNext s).2) ∧ (uNext s).2 ≤ 4 ∧ -1 ≤ (uNext s).1 ∧ (uNext s).1 ≤ 1114111 := by
  rcases uNext_inv s with ⟨h1, h2⟩ | ⟨h1, h2, h3⟩
  · rw [h1, h2]
    refine ⟨by omega, fun h => ?_, by omega, by omega, by omega⟩
    have := List.length_pos_iff.2 h; omega
  · have hl := congrArg List.length h2
    rw [List.length_take] at hl
    have := uPut_ne (uNext s).1
    have := (uChar_iff _).1 h1
    exact ⟨by omega, fun _ => by omega, by omega, by omega, by omega⟩
/-- what is read hangs on its own bytes alone -/
theorem uNext_take (s : List UInt8) (m : Nat) (hm : (uNext s).2 ≤ m) : uNext (s.take m) = uNext s := by
  rcases uNext_inv s with ⟨h1, h2⟩ | ⟨h1, h2, h3⟩
  · rcases uNext_inv (s.take m) with ⟨k1, k2⟩ | ⟨k1, k2, k3⟩
    · refine Prod.ext (by rw [h1, k1]) ?_
      rw [k2, List.length_take, h2]; omega
    · exfalso
      have hle := (uNext_size (s.take m)).1
      rw [List.length_take] at hle
      rw [List.take_take, Nat.min_eq_left (by omega)] at k2
      have hh : s = uPut (uNext (s.take m)).1 ++ s.drop (uNext (s.take m)).2 := by rw [← k2, List.take_append_drop]
      have := uNext_put _ k1 (s.drop (uNext (s.take m)).2)
      rw [← hh] at this
      rw [this] at h1
      have := (uChar_iff _).1 k1
      simp only at h1
      omega
  · have hh : s.take m = uPut (uNext s).1 ++ (s.take m).drop (uNext s).2 := by
      rw [← h2]
      conv => lhs; rw [← List.take_append_drop (uNext s).2 (s.take m)]
      rw [List.take_take, Nat.min_eq_left hm]
    rw [hh, uNext_put _ h1]
    exact Prod.ext rfl h3.symm

/-! All characters, with their sizes. -/
def uScan (s : List UInt8) : List (Int × Nat) :=
  if h : s = [] then [] else uNext s :: uScan (s.drop (uNext s).2)
termination_by s.length
decreasing_by
  have := (uNext_size s).2.1 h
  have := List.length_pos_iff.2 h
  rw [List.length_drop]; omega
theorem uScan_nil : uScan [] = [] := by rw [uScan]; rfl
theorem uScan_cons (s : List UInt8) (h : s ≠ []) : uScan s = uNext s :: uScan (s.drop (uNext s).2) := by rw [uScan, dif_neg h]
theorem drop_lt (s : List UInt8) (h : s ≠ []) : (s.drop (uNext s).2).length < s.length := by
  have := (uNext_size s).2.1 h
  have := List.length_pos_iff.2 h
  rw [List.length_drop]; omega
theorem uScan_put (c : Int) (hc : uChar c = true) (r : List UInt8) : uScan (uPut c ++ r) = (c, (uPut c).length) :: uScan r := by
  have hne : uPut c ++ r ≠ [] := by
    intro e
    have h1 := congrArg List.length e
    have h2 := uPut_ne c
    rw [List.length_append, List.length_nil] at h1
    omega
  rw [uScan_cons _ hne, uNext_put c hc, List.drop_left]
def uBad (s : List UInt8) : Bool := (uScan s).any fun x => x.1 == -1
theorem uScan_lay (l : List Int) (h : ∀ c ∈ l, uChar c = true) : uScan (l.flatMap uPut) = l.map fun c => (c, (uPut c).length) := by
  induction l with
  | nil => exact uScan_nil
  | cons c l ih => rw [List.flatMap_cons, uScan_put c (h c (by simp)), ih (fun d hd => h d (by simp [hd])), List.map_cons]
/-- induction over what is read -/
theorem uInd {C : List UInt8 → Prop} (h0 : C []) (h1 : ∀ s, s ≠ [] → C (s.drop (uNext s).2) → C s) (s : List UInt8) : C s := by
  generalize hn : s.length = n
  induction n using Nat.strongRecOn generalizing s with
  | _ n ih =>
    by_cases h : s = []
    · subst h; exact h0
    · exact h1 s h (ih _ (by rw [← hn]; exact drop_lt s h) _ rfl)
theorem uBad_nil : uBad [] = false := by rw [uBad, uScan_nil]; rfl
theorem uBad_cons (s : List UInt8) (h : s ≠ []) : uBad s = ((uNext s).1 == -1 || uBad (s.drop (uNext s).2)) := by rw [uBad, uScan_cons s h]; rfl
theorem uBack (s : List UInt8) (h : uBad s = false) : ((uScan s).map Prod.fst).flatMap uPut = s ∧ ∀ c ∈ (uScan s).map Prod.fst, uChar c = true := by
  revert h
  refine uInd (C := fun s => uBad s = false → ((uScan s).map Prod.fst).flatMap uPut = s ∧ ∀ c ∈ (uScan s).map Prod.fst, uChar c = true) ?_ ?_ s
  · intro _; rw [uScan_nil]; exact ⟨rfl, by simp⟩
  · intro s hs ih h
    rw [uBad_cons s hs] at h
    simp only [Bool.or_eq_false_iff, beq_eq_false_iff_ne, ne_eq] at h
    rcases uNext_inv s with ⟨h1, _⟩ | ⟨h1, h2, h3⟩
    · exact absurd h1 h.1
    obtain ⟨i1, i2⟩ := ih h.2
    rw [uScan_cons s hs, List.map_cons, List.flatMap_cons, i1, ← h2, List.take_append_drop]
    refine ⟨rfl, ?_⟩
    intro c hc
    simp only [List.mem_cons] at hc
    rcases hc with rfl | hc
    · exact h1
    · exact i2 c hc
/-- a beginning of whole characters -/
def uCutN : List (Int × Nat) → Int → Nat
  | [], _ => 0
  | x :: r, m => if m < (x.2 : Int) then 0 else x.2 + uCutN r (m - x.2)
def uCut (s : List UInt8) (m : Int) : Nat := uCutN (uScan s) m
theorem uCut_nil (m : Int) : uCut [] m = 0 := by rw [uCut, uScan_nil]; rfl
theorem uCut_cons (s : List UInt8) (h : s ≠ []) (m : Int) : uCut s m = if m < ((uNext s).2 : Int) then 0 else (uNext s).2 + uCut (s.drop (uNext s).2) (m - (uNext s).2) := by
  rw [uCut, uScan_cons s h]; rfl
theorem uCut_le (s : List UInt8) : ∀ m : Int, 0 ≤ m → uCut s m ≤ s.length ∧ (uCut s m : Int) ≤ m := by
  refine uInd (C := fun s => ∀ m : Int, 0 ≤ m → uCut s m ≤ s.length ∧ (uCut s m : Int) ≤ m) ?_ ?_ s
  · intro m hm; rw [uCut_nil]; exact ⟨by simp, by omega⟩
  · intro s hs ih m hm
    rw [uCut_cons s hs]
    split
    · exact ⟨by omega, by omega⟩
    · have := ih (m - (uNext s).2) (by omega)
      rw [List.length_drop] at this
      have := (uNext_size s).1
      exact ⟨by omega, by omega⟩
theorem uCut_small (s : List UInt8) (m : Int) (hm : m < 1) : uCut s m = 0 := by
  by_cases h : s = []
  · subst h; exact uCut_nil m
  · rw [uCut_cons s h, if_pos (by have := (uNext_size s).2.1 h; omega)]
theorem uCut_len (s : List UInt8) (m : Int) : uCut s m ≤ s.length := by
  by_cases h : 0 ≤ m
  · exact (uCut_le s m h).1
  · rw [uCut_small s m (by omega)]; omega
/-- behind a beginning: all characters are those of the two parts; it is cut to itself; the next one does not fit -/
theorem uCut_parts (s : List UInt8) : ∀ m : Int, 0 ≤ m →
    uScan s = uScan (s.take (uCut s m)) ++ uScan (s.drop (uCut s m)) ∧ uCut (s.take (uCut s m)) m = uCut s m ∧
    (uCut s m = s.length ∨ m < (uCut s m : Int) + ((uNext (s.drop (uCut s m))).2 : Int)) := by
  refine uInd (C := fun s => ∀ m : Int, 0 ≤ m →
    uScan s = uScan (s.take (uCut s m)) ++ uScan (s.drop (uCut s m)) ∧ uCut (s.take (uCut s m)) m = uCut s m ∧
    (uCut s m = s.length ∨ m < (uCut s m : Int) + ((uNext (s.drop (uCut s m))).2 : Int))) ?_ ?_ s
  · intro m hm
    rw [uCut_nil, List.take_nil, List.drop_nil, uScan_nil, uCut_nil]
    exact ⟨rfl, rfl, .inl rfl⟩
  · intro s hs ih m hm
    rw [uCut_cons s hs m]
    by_cases hlt : m < ((uNext s).2 : Int)
    · rw [if_pos hlt, List.take_zero, List.drop_zero, uScan_nil, uCut_nil]
      exact ⟨rfl, rfl, .inr (by simpa using hlt)⟩
    rw [if_neg hlt]
    obtain ⟨i1, i2, i3⟩ := ih (m - (uNext s).2) (by omega)
    have hz := uNext_size s
    have h1 := hz.2.1 hs
    generalize hk : uCut (s.drop (uNext s).2) (m - (uNext s).2) = k at *
    have htake : uNext (s.take ((uNext s).2 + k)) = uNext s := uNext_take s _ (by omega)
    have hne : s.take ((uNext s).2 + k) ≠ [] := by
      intro e
      have h2 := congrArg List.length e
      have h3 := List.length_pos_iff.2 hs
      rw [List.length_take, List.length_nil] at h2
      omega
    have hdt : (s.take ((uNext s).2 + k)).drop (uNext s).2 = (s.drop (uNext s).2).take k := by
      rw [List.drop_take]; congr 1; omega
    have hdd : s.drop ((uNext s).2 + k) = (s.drop (uNext s).2).drop k := by rw [List.drop_drop]
    refine ⟨?_, ?_, ?_⟩
    · rw [uScan_cons s hs, uScan_cons _ hne, htake, hdt, hdd, i1]; rfl
    · rw [uCut_cons _ hne, htake, hdt, if_neg hlt, i2]
    · rw [hdd]
      rw [List.length_drop] at i3
      rcases i3 with i3 | i3
      · left; omega
      · right; simp only [Int.natCast_add]; omega
/-- small letters -/
def uLow (b : UInt8) : UInt8 := if 65 ≤ b.toNat ∧ b.toNat ≤ 90 then UInt8.ofNat (b.toNat + 32) else b
theorem uLow_low (b : UInt8) : uLow (uLow b) = uLow b := by
  unfold uLow
  by_cases h : 65 ≤ b.toNat ∧ b.toNat ≤ 90
  · rw [if_pos h, u8_of _ (by omega), if_neg (by omega)]
  · rw [if_neg h, if_neg h]
/-- no controls -/
def uCtl (c : Int) : Bool := decide (c < 32) || decide (c = 127)
def uPlain (s : List UInt8) : Bool := (uScan s).all fun x => !uCtl x.1
theorem uPlain_nil : uPlain [] = true := by rw [uPlain, uScan_nil]; rfl
theorem uPlain_cons (s : List UInt8) (h : s ≠ []) : uPlain s = (!uCtl (uNext s).1 && uPlain (s.drop (uNext s).2)) := by rw [uPlain, uScan_cons s h]; rfl
def bCtl (b : UInt8) : Bool := decide (b.toNat < 32) || decide (b.toNat = 127)
theorem uCtl_put (c : Int) (hc : uChar c = true) : (uPut c).any bCtl = uCtl c := by
  have hb := (uChar_iff c).1 hc
  obtain ⟨m, rfl⟩ : ∃ m : Nat, c = (m : Int) := ⟨c.toNat, by omega⟩
  have hbig : ∀ k, 128 ≤ k → k < 256 → bCtl (UInt8.ofNat k) = false := fun k h1 h2 => by
    unfold bCtl; rw [u8_of k h2]; simp; omega
  unfold uPut
  simp only [Int.toNat_natCast]
  unfold uPutN
  split
  · simp only [List.map_cons, List.map_nil, List.any_cons, List.any_nil, Bool.or_false, bCtl, u8_of m (by omega), uCtl]
    congr 1
    · simp; omega
    · simp; omega
  have hu : uCtl (m : Int) = false := by unfold uCtl; simp; omega
  rw [hu]
  split
  · simp only [List.map_cons, List.map_nil, List.any_cons, List.any_nil, Bool.or_false]
    rw [hbig _ (by omega) (by omega), hbig _ (by omega) (by omega)]; rfl
  split
  · simp only [List.map_cons, List.map_nil, List.any_cons, List.any_nil, Bool.or_false]
    rw [hbig _ (by omega) (by omega), hbig _ (by omega) (by omega), hbig _ (by omega) (by omega)]; rfl
  · simp only [List.map_cons, List.map_nil, List.any_cons, List.any_nil, Bool.or_false]
    rw [hbig _ (by omega) (by omega), hbig _ (by omega) (by omega), hbig _ (by omega) (by omega), hbig _ (by omega) (by omega)]; rfl
theorem uPlain_eq (s : List UInt8) : uPlain s = (!s.any bCtl && !uBad s) := by
  refine uInd (C := fun s => uPlain s = (!s.any bCtl && !uBad s)) ?_ ?_ s
  · rw [uPlain_nil, uBad_nil]; rfl
  · intro s hs ih
    rw [uPlain_cons s hs, uBad_cons s hs, ih]
    rcases uNext_inv s with ⟨h1, _⟩ | ⟨h1, h2, h3⟩
    · rw [h1]; simp [uCtl]
    · have e : s.any bCtl = (uCtl (uNext s).1 || (s.drop (uNext s).2).any bCtl) := by
        conv => lhs; rw [← List.take_append_drop (uNext s).2 s, List.any_append, h2, uCtl_put _ h1]
      have hn : ((uNext s).1 == -1) = false := by
        have := (uChar_iff _).1 h1
        simp; omega
      rw [e, hn]
      cases uCtl (uNext s).1 <;> simp
/-! The document's first character: the first number of bytes that are just a character's. -/
def uVal : List UInt8 → Nat → Int
  | s, 1 => (s.getD 0 0).toNat
  | s, 2 => 64 * ((s.getD 0 0).toNat - 192) + (s.getD 1 0).toNat - 128
  | s, 3 => 4096 * ((s.getD 0 0).toNat - 224) + 64 * ((s.getD 1 0).toNat - 128) + (s.getD 2 0).toNat - 128
  | s, _ => 262144 * ((s.getD 0 0).toNat - 240) + 4096 * ((s.getD 1 0).toNat - 128) + 64 * ((s.getD 2 0).toNat - 128) + (s.getD 3 0).toNat - 128
/-- n bytes are just a character's -/
def uFit (s : List UInt8) (n : Nat) : Bool := uChar (uVal s n) && decide (s.take n = uPut (uVal s n))
theorem uVal_put (c : Int) (hc : uChar c = true) (r : List UInt8) : uVal (uPut c ++ r) (uPut c).length = c := by
  have hb := (uChar_iff c).1 hc
  obtain ⟨m, rfl⟩ : ∃ m : Nat, c = (m : Int) := ⟨c.toNat, by omega⟩
  unfold uPut
  simp only [Int.toNat_natCast]
  unfold uPutN
  split
  · simp only [List.map_cons, List.map_nil, List.cons_append, List.nil_append, List.length_cons, List.length_nil, uVal, List.getD_cons_zero]
    rw [u8_of _ (by omega)]
  split
  · simp only [List.map_cons, List.map_nil, List.cons_append, List.nil_append, List.length_cons, List.length_nil, uVal, List.getD_cons_zero, List.getD_cons_succ]
    rw [u8_of _ (by omega), u8_of _ (by omega)]; omega
  split
  · simp only [List.map_cons, List.map_nil, List.cons_append, List.nil_append, List.length_cons, List.length_nil, uVal, List.getD_cons_zero, List.getD_cons_succ]
    rw [u8_of _ (by omega), u8_of _ (by omega), u8_of _ (by omega)]; omega
  · simp only [List.map_cons, List.map_nil, List.cons_append, List.nil_append, List.length_cons, List.length_nil, uVal, List.getD_cons_zero, List.getD_cons_succ]
    rw [u8_of _ (by omega), u8_of _ (by omega), u8_of _ (by omega), u8_of _ (by omega)]; omega
/-- n bytes are just a character's: it is the first one -/
theorem uFit_next (s : List UInt8) (n : Nat) (hn : n ≤ s.length) (h : uFit s n = true) : uNext s = (uVal s n, n) := by
  unfold uFit at h
  simp only [Bool.and_eq_true, decide_eq_true_eq] at h
  obtain ⟨h1, h2⟩ := h
  have hh : s = uPut (uVal s n) ++ s.drop n := by rw [← h2, List.take_append_drop]
  have := uNext_put _ h1 (s.drop n)
  rw [← hh, ← h2, List.length_take, Nat.min_eq_left hn] at this
  exact this
theorem uFit_of (s : List UInt8) (h : (uNext s).1 ≠ -1) : uFit s (uNext s).2 = true := by
  rcases uNext_inv s with ⟨h1, h2⟩ | ⟨h1, h2, h3⟩
  · exact absurd h1 h
  have hh : s = uPut (uNext s).1 ++ s.drop (uNext s).2 := by rw [← h2, List.take_append_drop]
  have e := uVal_put _ h1 (s.drop (uNext s).2)
  rw [← hh, ← h3] at e
  unfold uFit
  rw [e, h1, h2]; simp
end Go.Proofs.Ytfgfkiifekeeaaa
