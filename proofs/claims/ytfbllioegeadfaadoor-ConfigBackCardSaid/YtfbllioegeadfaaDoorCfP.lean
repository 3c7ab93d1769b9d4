/- A config's text in plain words: numbers in decimal, parts between signs; read part by part, and read from left to right, it is the same. No program in sight. -/
import Derived.Test.YtfbllioegeadfaaDoorKit
namespace Go.Proofs.YtfbllioegeadfaaDoor
set_option linter.unusedSimpArgs false
set_option linter.unusedVariables false

abbrev Tx := List UInt8
def isD (b : UInt8) : Bool := decide (48 ≤ b.toNat) && decide (b.toNat ≤ 57)
def valT (t : Tx) : Int := t.foldl (fun n b => 10 * n + ((b.toNat : Int) - 48)) 0
def bad0 (t : Tx) : Prop := t = [] ∨ 7 < t.length ∨ (1 < t.length ∧ t.head? = some 48)
instance (t : Tx) : Decidable (bad0 t) := by unfold bad0; infer_instance
/-- a text that is a number -/
def numS (t : Tx) : Option Int := if bad0 t ∨ t.all isD = false then none else some (valT t)
/-- parts between signs c -/
def spl (c : UInt8) : Tx → List Tx
  | [] => [[]]
  | b :: t => if b = c then [] :: spl c t else match spl c t with
    | h :: r => (b :: h) :: r
    | [] => [[b]]
def jn (c : UInt8) : List Tx → Tx
  | [] => []
  | [x] => x
  | x :: y :: r => x ++ c :: jn c (y :: r)
theorem spl_ne (c : UInt8) : ∀ t, spl c t ≠ []
  | [] => by simp [spl]
  | b :: t => by
    unfold spl
    split
    · simp
    · split <;> simp
theorem jn_cons (c : UInt8) (x : Tx) (r : List Tx) (h : r ≠ []) : jn c (x :: r) = x ++ c :: jn c r := by
  cases r with
  | nil => exact absurd rfl h
  | cons y r => rfl
theorem jn_spl (c : UInt8) : ∀ t, jn c (spl c t) = t
  | [] => rfl
  | b :: t => by
    have ih := jn_spl c t
    have hne := spl_ne c t
    unfold spl
    by_cases h : b = c
    · rw [if_pos h, jn_cons _ _ _ hne, ih, h]; rfl
    · rw [if_neg h]
      cases hs : spl c t with
      | nil => exact absurd hs hne
      | cons x r =>
        rw [hs] at ih
        simp only
        cases r with
        | nil => simp only [jn] at ih ⊢; rw [ih]
        | cons y r => simp only [jn] at ih ⊢; rw [← ih]; rfl
theorem spl_app (c : UInt8) (x t : Tx) (hx : c ∉ x) : spl c (x ++ c :: t) = x :: spl c t := by
  induction x with
  | nil => simp [spl]
  | cons b x ih =>
    simp only [List.mem_cons, not_or] at hx
    rw [List.cons_append, spl, if_neg (Ne.symm hx.1), ih hx.2]
theorem spl_one (c : UInt8) (x : Tx) (hx : c ∉ x) : spl c x = [x] := by
  induction x with
  | nil => rfl
  | cons b x ih =>
    simp only [List.mem_cons, not_or] at hx
    rw [spl, if_neg (Ne.symm hx.1), ih hx.2]
theorem spl_jn (c : UInt8) : ∀ l : List Tx, l ≠ [] → (∀ x ∈ l, c ∉ x) → spl c (jn c l) = l
  | [], h, _ => absurd rfl h
  | [x], _, h => spl_one c x (h x (by simp))
  | x :: y :: r, _, h => by
    rw [jn_cons _ _ _ (by simp), spl_app c x _ (h x (by simp)), spl_jn c (y :: r) (by simp) (fun z hz => h z (by simp at hz ⊢; exact .inr hz))]
def nums : List Tx → Option (List Int)
  | [] => some []
  | t :: r => (numS t).bind fun n => (nums r).map (n :: ·)
theorem nums_len : ∀ (l : List Tx) (a : List Int), nums l = some a → a.length = l.length
  | [], a, h => by simp [nums] at h; subst h; rfl
  | t :: r, a, h => by
    simp only [nums, Option.bind_eq_some_iff, Option.map_eq_some_iff] at h
    obtain ⟨n, _, b, hb, rfl⟩ := h
    rw [List.length_cons, List.length_cons, nums_len r b hb]
theorem nums_app : ∀ (l m : List Tx) (a b : List Int), nums l = some a → nums m = some b → nums (l ++ m) = some (a ++ b)
  | [], m, a, b, h1, h2 => by simp [nums] at h1; subst h1; exact h2
  | t :: r, m, a, b, h1, h2 => by
    simp only [nums, Option.bind_eq_some_iff, Option.map_eq_some_iff] at h1
    obtain ⟨n, hn, c, hc, rfl⟩ := h1
    simp only [List.cons_append, nums, hn, nums_app r m c b hc h2, Option.bind_some, Option.map_some]
theorem nums_part : ∀ (l m : List Tx) (a : List Int), nums (l ++ m) = some a → ∃ b c, a = b ++ c ∧ nums l = some b ∧ nums m = some c
  | [], m, a, h => ⟨[], a, rfl, rfl, h⟩
  | t :: r, m, a, h => by
    simp only [List.cons_append, nums, Option.bind_eq_some_iff, Option.map_eq_some_iff] at h
    obtain ⟨n, hn, x, hx, rfl⟩ := h
    obtain ⟨b, c, rfl, h1, h2⟩ := nums_part r m x hx
    exact ⟨n :: b, c, rfl, by simp only [nums, hn, h1, Option.bind_some, Option.map_some], h2⟩
theorem numS_some {t : Tx} {n : Int} (h : numS t = some n) : ¬ bad0 t ∧ t.all isD = true ∧ n = valT t := by
  unfold numS at h
  by_cases hc : bad0 t ∨ t.all isD = false
  · rw [if_pos hc] at h; cases h
  · rw [if_neg hc] at h
    simp only [not_or] at hc
    exact ⟨hc.1, by simpa using hc.2, by injection h with h; exact h.symm⟩
theorem numS_of {t : Tx} (h1 : ¬ bad0 t) (h2 : t.all isD = true) : numS t = some (valT t) := by
  unfold numS
  rw [if_neg (by simp only [not_or]; exact ⟨h1, by rw [h2]; simp⟩)]
/-- a number at the head of a text, and what is behind it -/
def rNum (t : Tx) : Option (Int × Tx) := if bad0 ((t.take 8).takeWhile isD) then none else some (valT ((t.take 8).takeWhile isD), t.drop ((t.take 8).takeWhile isD).length)
def rRun : List Tx → Tx → Option (List Int)
  | [], t => if t = [] then some [] else none
  | p :: ps, t => if p.isPrefixOf t = true then (rNum (t.drop p.length)).bind fun x => (rRun ps x.2).map (x.1 :: ·) else none
/-- the prefixes and the numbers' texts, one behind the other -/
def cat : List Tx → List Tx → Tx
  | p :: ps, d :: ds => p ++ d ++ cat ps ds
  | _, _ => []
def noD (t : Tx) : Prop := ∀ b, t.head? = some b → isD b = false
theorem tw_take (d r : Tx) (hd : d.all isD = true) (hl : d.length ≤ 7) (hr : noD r) : ((d ++ r).take 8).takeWhile isD = d := by
  have h1 : (d ++ r).take 8 = d ++ r.take (8 - d.length) := by rw [List.take_append, List.take_of_length_le (by omega)]
  rw [h1]
  have h2 : ∀ (e : Tx), e.all isD = true → ∀ q : Tx, (∀ b, q.head? = some b → isD b = false) → (e ++ q).takeWhile isD = e := by
    intro e
    induction e with
    | nil =>
      intro _ q hq
      cases q with
      | nil => rfl
      | cons b q => rw [List.nil_append, List.takeWhile_cons, hq b rfl]; rfl
    | cons b e ih =>
      intro he q hq
      simp only [List.all_cons, Bool.and_eq_true] at he
      rw [List.cons_append, List.takeWhile_cons, he.1, ih he.2 q hq]; rfl
  refine h2 d hd _ ?_
  intro b hb
  cases r with
  | nil => simp at hb
  | cons x r =>
    have : 8 - d.length = (7 - d.length) + 1 := by omega
    rw [this, List.take_succ_cons] at hb
    exact hr b (by simpa using hb)
theorem rNum_of (d r : Tx) (n : Int) (hd : numS d = some n) (hr : noD r) : rNum (d ++ r) = some (n, r) := by
  obtain ⟨h1, h2, rfl⟩ := numS_some hd
  have hl : d.length ≤ 7 := by unfold bad0 at h1; simp only [not_or] at h1; omega
  unfold rNum
  rw [tw_take d r h2 hl hr, if_neg h1, List.drop_left]
theorem rNum_some {t r : Tx} {n : Int} (h : rNum t = some (n, r)) : ∃ d, numS d = some n ∧ t = d ++ r := by
  unfold rNum at h
  by_cases hb : bad0 ((t.take 8).takeWhile isD)
  · rw [if_pos hb] at h; cases h
  · rw [if_neg hb] at h
    injection h with h
    injection h with h1 h2
    have hall : ((t.take 8).takeWhile isD).all isD = true := List.all_takeWhile
    refine ⟨(t.take 8).takeWhile isD, by rw [numS_of hb hall, h1], ?_⟩
    rw [← h2]
    have hpre : (t.take 8).takeWhile isD <+: t := (List.takeWhile_prefix _).trans (List.take_prefix 8 t)
    obtain ⟨q, hq⟩ := hpre
    have hd : t.drop ((t.take 8).takeWhile isD).length = q := by
      generalize (t.take 8).takeWhile isD = D at hq ⊢
      rw [← hq]; exact List.drop_left
    rw [hd, hq]
end Go.Proofs.YtfbllioegeadfaaDoor
