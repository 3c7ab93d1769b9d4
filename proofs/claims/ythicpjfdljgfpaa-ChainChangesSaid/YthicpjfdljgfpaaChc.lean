/- Package chain: small ones; slices' functions with a closure. -/
import Derived.Test.YthicpjfdljgfpaaChl
import Derived.Test.YthicpjfdljgfpaaRel5
namespace Go.Proofs.Ythicpjfdljgfpaa
open Go.RowKit Go.Sort
set_option linter.unusedSimpArgs false
set_option linter.unusedVariables false

set_option maxRecDepth 100000 in
theorem nodes_IndexFunc (g : FuncId) (cap : Array Value) (p : Nd → Bool) (w : World) (eg : ∀ args w, (callFunc g args).run Try.prog w = .ok (.enter g args) w) (hg : ∀ x W, Below w.heap.size w W → Calls Try.prog g (#[ndV x] ++ cap) W fun e w' => e = .returned (.bool (p x)) ∧ Below W.heap.size W w')
    (A : Option Addr) (c : Nat) (l : List Nd) (hl : l.length ≤ maxLen) (ha : Rd w w.heap.size A (nds l)) :
    Calls Try.prog 63 #[.slice A l.length c, .func (.func g) #[] cap] w fun e w' => e = .returned (.int .i64 (idxI p l)) ∧ Below w.heap.size w w' := by
  unfold maxLen at hl
  go_enter Try.func63, Try.ntmps63
  go_wp2
  go_loopw [8] (fun i wr => ∃ k : Nat, k ≤ l.length ∧ i = .int .i64 k ∧ (∀ x ∈ l.take k, p x = false) ∧ Below w.heap.size w wr) (fun i _ => l.length - (intOf i).toNat)
  case atStart => exact ⟨0, Nat.zero_le _, rfl, by simp, by (repeat (first | with_reducible exact Below.refl _ _ | with_reducible assumption | with_reducible refine Below.drew ?_ | with_reducible refine Below.drewN ?_ _ | with_reducible refine Below.alloc1 ?_ _ | with_reducible refine Below.setCell1 ?_ (by first | omega | (simp; done) | (simp; omega)) _ | with_reducible refine Below.step ?_ (by with_reducible assumption)))⟩
  case round =>
    obtain ⟨k, hk, rfl, ht, hb⟩ := hrel
    have HT := hide ht
    clear ht
    by_cases hlt : k < l.length
    · obtain ⟨ad, rfl, hadb, c1, c2, c3⟩ := (ha.below hb).nd hlt
      go_wp2_with fail
      refine (hg l[k] _ hb).mono ?_; rintro e x0 ⟨rfl, hx0⟩
      by_cases hp : p l[k] = true
      · go_wp2
        go_ret
        exact ⟨ret_int (idxI_at hlt HT.out hp).symm, by (repeat (first | with_reducible exact Below.refl _ _ | with_reducible assumption | with_reducible refine Below.drew ?_ | with_reducible refine Below.drewN ?_ _ | with_reducible refine Below.alloc1 ?_ _ | with_reducible refine Below.setCell1 ?_ (by first | omega | (simp; done) | (simp; omega)) _ | with_reducible refine Below.step ?_ (by with_reducible assumption)))⟩
      · have hp' : p l[k] = false := by simpa using hp
        go_wp2
        go_roundw
        case rel => exact ⟨k + 1, by omega, by go_num, none_take hlt HT.out hp', by (repeat (first | with_reducible exact Below.refl _ _ | with_reducible assumption | with_reducible refine Below.drew ?_ | with_reducible refine Below.drewN ?_ _ | with_reducible refine Below.alloc1 ?_ _ | with_reducible refine Below.setCell1 ?_ (by first | omega | (simp; done) | (simp; omega)) _ | with_reducible refine Below.step ?_ (by with_reducible assumption)))⟩
        case measure => simp [intOf]; omega
    · go_wp2
      go_ret
      exact ⟨ret_int (idxI_none (by have := HT.out; rwa [List.take_of_length_le (by omega)] at this)).symm, by (repeat (first | with_reducible exact Below.refl _ _ | with_reducible assumption | with_reducible refine Below.drew ?_ | with_reducible refine Below.drewN ?_ _ | with_reducible refine Below.alloc1 ?_ _ | with_reducible refine Below.setCell1 ?_ (by first | omega | (simp; done) | (simp; omega)) _ | with_reducible refine Below.step ?_ (by with_reducible assumption)))⟩
set_option maxRecDepth 100000 in
theorem nodes_ContainsFunc (g : FuncId) (cap : Array Value) (p : Nd → Bool) (w : World) (eg : ∀ args w, (callFunc g args).run Try.prog w = .ok (.enter g args) w) (hg : ∀ x W, Below w.heap.size w W → Calls Try.prog g (#[ndV x] ++ cap) W fun e w' => e = .returned (.bool (p x)) ∧ Below W.heap.size W w')
    (A : Option Addr) (c : Nat) (l : List Nd) (hl : l.length ≤ maxLen) (ha : Rd w w.heap.size A (nds l)) :
    Calls Try.prog 47 #[.slice A l.length c, .func (.func g) #[] cap] w fun e w' => e = .returned (.bool (l.any p)) ∧ Below w.heap.size w w' := by
  have h := nodes_IndexFunc g cap p w eg hg A c l hl ha
  rw [← idxI_any]
  generalize idxI p l = r at *
  clear hg eg
  go_enter Try.func47, Try.ntmps47
  go_wp2_with fail
  refine h.mono ?_; rintro e x0 ⟨rfl, hx0⟩
  go_wp2
  go_ret
  exact ⟨rfl, by (repeat (first | with_reducible exact Below.refl _ _ | with_reducible assumption | with_reducible refine Below.drew ?_ | with_reducible refine Below.drewN ?_ _ | with_reducible refine Below.alloc1 ?_ _ | with_reducible refine Below.setCell1 ?_ (by first | omega | (simp; done) | (simp; omega)) _ | with_reducible refine Below.step ?_ (by with_reducible assumption)))⟩
set_option maxRecDepth 100000 in
theorem ints_IndexFunc (g : FuncId) (cap : Array Value) (p : Int → Bool) (w : World) (eg : ∀ args w, (callFunc g args).run Try.prog w = .ok (.enter g args) w) (hg : ∀ x W, Below w.heap.size w W → Calls Try.prog g (#[.int .i64 x] ++ cap) W fun e w' => e = .returned (.bool (p x)) ∧ Below W.heap.size W w')
    (A : Option Addr) (c : Nat) (l : List Int) (hl : l.length ≤ maxLen) (ha : Rd w w.heap.size A (ints l)) :
    Calls Try.prog 66 #[.slice A l.length c, .func (.func g) #[] cap] w fun e w' => e = .returned (.int .i64 (idxI p l)) ∧ Below w.heap.size w w' := by
  unfold maxLen at hl
  go_enter Try.func66, Try.ntmps66
  go_wp2
  go_loopw [8] (fun i wr => ∃ k : Nat, k ≤ l.length ∧ i = .int .i64 k ∧ (∀ x ∈ l.take k, p x = false) ∧ Below w.heap.size w wr) (fun i _ => l.length - (intOf i).toNat)
  case atStart => exact ⟨0, Nat.zero_le _, rfl, by simp, by (repeat (first | with_reducible exact Below.refl _ _ | with_reducible assumption | with_reducible refine Below.drew ?_ | with_reducible refine Below.drewN ?_ _ | with_reducible refine Below.alloc1 ?_ _ | with_reducible refine Below.setCell1 ?_ (by first | omega | (simp; done) | (simp; omega)) _ | with_reducible refine Below.step ?_ (by with_reducible assumption)))⟩
  case round =>
    obtain ⟨k, hk, rfl, ht, hb⟩ := hrel
    have HT := hide ht
    clear ht
    by_cases hlt : k < l.length
    · obtain ⟨ad, rfl, hadb, c1⟩ := (ha.below hb).at_ (k := k) (by simpa using hlt)
      rw [ints_get l k hlt] at c1
      go_wp2_with fail
      refine (hg l[k] _ hb).mono ?_; rintro e x0 ⟨rfl, hx0⟩
      by_cases hp : p l[k] = true
      · go_wp2
        go_ret
        exact ⟨ret_int (idxI_at hlt HT.out hp).symm, by (repeat (first | with_reducible exact Below.refl _ _ | with_reducible assumption | with_reducible refine Below.drew ?_ | with_reducible refine Below.drewN ?_ _ | with_reducible refine Below.alloc1 ?_ _ | with_reducible refine Below.setCell1 ?_ (by first | omega | (simp; done) | (simp; omega)) _ | with_reducible refine Below.step ?_ (by with_reducible assumption)))⟩
      · have hp' : p l[k] = false := by simpa using hp
        go_wp2
        go_roundw
        case rel => exact ⟨k + 1, by omega, by go_num, none_take hlt HT.out hp', by (repeat (first | with_reducible exact Below.refl _ _ | with_reducible assumption | with_reducible refine Below.drew ?_ | with_reducible refine Below.drewN ?_ _ | with_reducible refine Below.alloc1 ?_ _ | with_reducible refine Below.setCell1 ?_ (by first | omega | (simp; done) | (simp; omega)) _ | with_reducible refine Below.step ?_ (by with_reducible assumption)))⟩
        case measure => simp [intOf]; omega
    · go_wp2
      go_ret
      exact ⟨ret_int (idxI_none (by have := HT.out; rwa [List.take_of_length_le (by omega)] at this)).symm, by (repeat (first | with_reducible exact Below.refl _ _ | with_reducible assumption | with_reducible refine Below.drew ?_ | with_reducible refine Below.drewN ?_ _ | with_reducible refine Below.alloc1 ?_ _ | with_reducible refine Below.setCell1 ?_ (by first | omega | (simp; done) | (simp; omega)) _ | with_reducible refine Below.step ?_ (by with_reducible assumption)))⟩
set_option maxRecDepth 100000 in
theorem ints_ContainsFunc (g : FuncId) (cap : Array Value) (p : Int → Bool) (w : World) (eg : ∀ args w, (callFunc g args).run Try.prog w = .ok (.enter g args) w) (hg : ∀ x W, Below w.heap.size w W → Calls Try.prog g (#[.int .i64 x] ++ cap) W fun e w' => e = .returned (.bool (p x)) ∧ Below W.heap.size W w')
    (A : Option Addr) (c : Nat) (l : List Int) (hl : l.length ≤ maxLen) (ha : Rd w w.heap.size A (ints l)) :
    Calls Try.prog 62 #[.slice A l.length c, .func (.func g) #[] cap] w fun e w' => e = .returned (.bool (l.any p)) ∧ Below w.heap.size w w' := by
  have h := ints_IndexFunc g cap p w eg hg A c l hl ha
  rw [← idxI_any]
  generalize idxI p l = r at *
  clear hg eg
  go_enter Try.func62, Try.ntmps62
  go_wp2_with fail
  refine h.mono ?_; rintro e x0 ⟨rfl, hx0⟩
  go_wp2
  go_ret
  exact ⟨rfl, by (repeat (first | with_reducible exact Below.refl _ _ | with_reducible assumption | with_reducible refine Below.drew ?_ | with_reducible refine Below.drewN ?_ _ | with_reducible refine Below.alloc1 ?_ _ | with_reducible refine Below.setCell1 ?_ (by first | omega | (simp; done) | (simp; omega)) _ | with_reducible refine Below.step ?_ (by with_reducible assumption)))⟩
abbrev csV (A B C : Option Addr) (a b c n h t : Nat) : Value := .agg #[.slice A n a, .slice B h b, .slice C t c]
theorem chain_in_any (n a b : Int) (w : World) :
    Calls Try.prog 43 #[.int .i64 n, .int .i64 a, .int .i64 b] w fun e w' => e = .returned (.bool (cIn n a b)) ∧ w = w' := by
  by_cases h1 : a ≤ n <;> by_cases h2 : n ≤ b
  all_goals
    go_enter Try.func43, Try.ntmps43
    go_wp2
    go_ret
    exact ⟨ret_bool (by simp [cIn, *]), rfl⟩
theorem r04_in_any (n a b : Int) (w : World) :
    Calls Try.prog 39 #[.int .i64 n, .int .i64 a, .int .i64 b] w fun e w' => e = .returned (.bool (cIn n a b)) ∧ w = w' := by
  by_cases h1 : a ≤ n <;> by_cases h2 : n ≤ b
  all_goals
    go_enter Try.func39, Try.ntmps39
    go_wp2
    go_ret
    exact ⟨ret_bool (by simp [cIn, *]), rfl⟩
theorem chain_is_any (A B C : Option Addr) (a b c n h t : Nat) (list : Int) (w : World) (hh : h ≤ maxLen) :
    Calls Try.prog 35 #[csV A B C a b c n h t, .int .i64 list] w fun e w' => e = .returned (.bool (cIn list 0 ((h : Int) - 1))) ∧ Below w.heap.size w w' := by
  unfold maxLen at hh
  have hI := fun W => chain_in_any list 0 ((h : Int) - 1) W
  go_enter Try.func35, Try.ntmps35
  go_wp2_with fail
  refine (hI _).mono ?_; rintro e w1 ⟨rfl, rfl⟩
  go_wp2
  go_ret
  exact ⟨rfl, by (repeat (first | with_reducible exact Below.refl _ _ | with_reducible assumption | with_reducible refine Below.drew ?_ | with_reducible refine Below.drewN ?_ _ | with_reducible refine Below.alloc1 ?_ _ | with_reducible refine Below.setCell1 ?_ (by first | omega | (simp; done) | (simp; omega)) _ | with_reducible refine Below.step ?_ (by with_reducible assumption)))⟩
theorem chain_has_any (A B C : Option Addr) (a b c n h t : Nat) (at_ : Int) (w : World) (hh : n ≤ maxLen) :
    Calls Try.prog 36 #[csV A B C a b c n h t, .int .i64 at_] w fun e w' => e = .returned (.bool (cIn at_ 0 ((n : Int) - 1))) ∧ Below w.heap.size w w' := by
  unfold maxLen at hh
  have hI := fun W => chain_in_any at_ 0 ((n : Int) - 1) W
  go_enter Try.func36, Try.ntmps36
  go_wp2_with fail
  refine (hI _).mono ?_; rintro e w1 ⟨rfl, rfl⟩
  go_wp2
  go_ret
  exact ⟨rfl, by (repeat (first | with_reducible exact Below.refl _ _ | with_reducible assumption | with_reducible refine Below.drew ?_ | with_reducible refine Below.drewN ?_ _ | with_reducible refine Below.alloc1 ?_ _ | with_reducible refine Below.setCell1 ?_ (by first | omega | (simp; done) | (simp; omega)) _ | with_reducible refine Below.step ?_ (by with_reducible assumption)))⟩
theorem chain_link_any (A B C : Option Addr) (a b c n h t : Nat) (at_ : Int) (w : World) (hh : n ≤ maxLen) :
    Calls Try.prog 60 #[csV A B C a b c n h t, .int .i64 at_] w fun e w' => e = .returned (.bool (cIn at_ (-1) ((n : Int) - 1))) ∧ Below w.heap.size w w' := by
  unfold maxLen at hh
  have hI := fun W => chain_in_any at_ (-1) ((n : Int) - 1) W
  go_enter Try.func60, Try.ntmps60
  go_wp2_with fail
  refine (hI _).mono ?_; rintro e w1 ⟨rfl, rfl⟩
  go_wp2
  go_ret
  exact ⟨rfl, by (repeat (first | with_reducible exact Below.refl _ _ | with_reducible assumption | with_reducible refine Below.drew ?_ | with_reducible refine Below.drewN ?_ _ | with_reducible refine Below.alloc1 ?_ _ | with_reducible refine Below.setCell1 ?_ (by first | omega | (simp; done) | (simp; omega)) _ | with_reducible refine Below.step ?_ (by with_reducible assumption)))⟩
/-- what lies in a boxed state -/
abbrev csC (A B C : Option Addr) (a b c n h t : Nat) : List Value := [.slice A n a, .slice B h b, .slice C t c]
theorem chain_odd_any (x : Int) (A B C : Option Addr) (a b c n h t g : Nat) (w : World) (hh : n ≤ maxLen) (k : Bk w g 30 (csC A B C a b c n h t)) :
    Calls Try.prog 59 (#[.int .i64 x] ++ #[.pointer (some ⟨g, 0, none⟩)]) w fun e w' => e = .returned (.bool (!cIn x (-1) ((n : Int) - 1))) ∧ Below w.heap.size w w' := by
  show Calls Try.prog 59 #[.int .i64 x, .pointer (some ⟨g, 0, none⟩)] w _
  have hL := fun W => chain_link_any A B C a b c n h t x W hh
  have k_0 := k.cell 0; have k_f0 := k.frozen 0; have k_1 := k.cell 1; have k_f1 := k.frozen 1; have k_2 := k.cell 2; have k_f2 := k.frozen 2; simp only [List.set_cons_zero, List.set_cons_succ, List.getElem?_cons_zero, List.getElem?_cons_succ] at k_0 k_1 k_2; have lt_k := k.lt
  go_enter Try.func59, Try.ntmps59
  go_wp2_with fail
  refine (hL _).mono ?_; rintro e w1 ⟨rfl, hx⟩
  go_wp2
  go_ret
  exact ⟨rfl, by (repeat (first | with_reducible exact Below.refl _ _ | with_reducible assumption | with_reducible refine Below.drew ?_ | with_reducible refine Below.drewN ?_ _ | with_reducible refine Below.alloc1 ?_ _ | with_reducible refine Below.setCell1 ?_ (by first | omega | (simp; done) | (simp; omega)) _ | with_reducible refine Below.step ?_ (by with_reducible assumption)))⟩
end Go.Proofs.Ythicpjfdljgfpaa
