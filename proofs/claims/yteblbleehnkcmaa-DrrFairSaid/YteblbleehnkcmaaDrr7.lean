/- Package drr: rows of loads; slices' functions at Load and int. -/
import Derived.Test.YteblbleehnkcmaaDrr6
import Derived.Shelf.Abstract
import Derived.Lib.LazyBuf
namespace Go.Proofs.Yteblbleehnkcmaa
open Go.RowKit
set_option linter.unusedSimpArgs false
set_option linter.unusedVariables false

structure Ld where
  id : Int
  A : Option Addr
  c : Nat
  xs : List Int
instance : Inhabited Ld := ⟨⟨0, none, 0, []⟩⟩
abbrev ldC (x : Ld) : List Value := [.int .i64 x.id, .slice x.A x.xs.length x.c]
abbrev ldV (x : Ld) : Value := .agg #[.int .i64 x.id, .slice x.A x.xs.length x.c]
abbrev ldR (l : List Ld) : List Value := l.flatMap ldC
theorem ldR_length (l : List Ld) : (ldR l).length = 2 * l.length := by
  induction l with
  | nil => rfl
  | cons a l ih => simp only [ldR, List.flatMap_cons, List.length_append, List.length_cons] at *; simp only [List.length_nil] at *; omega
theorem ldR_get (l : List Ld) (k : Nat) (h : k < l.length) : (ldR l)[k * 2]? = some (.int .i64 l[k].id) ∧ (ldR l)[k * 2 + 1]? = some (.slice l[k].A l[k].xs.length l[k].c) := by
  induction l generalizing k with
  | nil => simp at h
  | cons a l ih =>
    cases k with
    | zero => simp [ldR]
    | succ k =>
      have := ih k (by simpa using h)
      have e : ∀ j, (ldR (a :: l))[(k + 1) * 2 + j]? = (ldR l)[k * 2 + j]? := fun j => by
        rw [show (k + 1) * 2 + j = (k * 2 + j) + 2 by omega]
        simp [ldR]
      have e0 := e 0
      simp only [Nat.add_zero] at e0
      rw [e0, e 1]
      simpa using this
theorem Rd.ld {w : World} {B : Nat} {A : Option Addr} {l : List Ld} (h : Rd w B A (ldR l)) {k : Nat} (hk : k < l.length) :
    ∃ ad, A = some ad ∧ ad.block < B ∧ w.cell? (ad.add (k * 2)) = some (.int .i64 l[k].id) ∧ w.cell? { block := (ad.add (k * 2)).block, off := (ad.add (k * 2)).off + 1 } = some (.slice l[k].A l[k].xs.length l[k].c) := by
  obtain ⟨ad, e, hb, hc⟩ := h (by intro e; have := ldR_length l; rw [e] at this; simp at this; omega)
  obtain ⟨q0, q1⟩ := ldR_get l k hk
  have f : ∀ (x : Addr) (i : Nat), i ≠ 0 → x.add i = { block := x.block, off := x.off + i } := fun x i hi => by simp [Addr.add, hi]
  exact ⟨ad, e, hb, hc _ _ q0, by rw [← f _ 1 (by omega), add_add']; exact hc _ _ q1⟩
theorem ldR_one (l : List Ld) : ∀ u ∈ ldR l, u.oneCell' = true := by
  intro u hu
  obtain ⟨x, _, hx⟩ := List.mem_flatMap.1 hu
  simp [ldC] at hx
  rcases hx with rfl | rfl <;> simp [Value.oneCell']
theorem ld_IndexFunc (g : FuncId) (cap : Array Value) (p : Ld → Bool) (w : World) (eg : ∀ args w, (callFunc g args).run Try.prog w = .ok (.enter g args) w) (hg : ∀ x W, Below w.heap.size w W → Calls Try.prog g (#[ldV x] ++ cap) W fun e w' => e = .returned (.bool (p x)) ∧ Below W.heap.size W w')
    (A : Option Addr) (c : Nat) (l : List Ld) (hl : l.length ≤ maxLen) (ha : Rd w w.heap.size A (ldR l)) :
    Calls Try.prog 47 #[.slice A l.length c, .func (.func g) #[] cap] w fun e w' => e = .returned (.int .i64 (idxI p l)) ∧ Below w.heap.size w w' := by
  unfold maxLen at hl
  go_enter Try.func47, Try.ntmps47
  go_wp2
  go_loopw [8] (fun i wr => ∃ k : Nat, k ≤ l.length ∧ i = .int .i64 k ∧ (∀ x ∈ l.take k, p x = false) ∧ Below w.heap.size w wr) (fun i _ => l.length - (intOf i).toNat)
  case atStart => exact ⟨0, Nat.zero_le _, rfl, by simp, by (repeat (first | with_reducible exact Below.refl _ _ | with_reducible assumption | with_reducible refine Below.drew ?_ | with_reducible refine Below.drewN ?_ _ | with_reducible refine Below.alloc1 ?_ _ | with_reducible refine Below.setCell1 ?_ (by first | omega | (simp; done) | (simp; omega)) _ | with_reducible refine Below.step ?_ (by with_reducible assumption)))⟩
  case round =>
    obtain ⟨k, hk, rfl, ht, hb⟩ := hrel
    have HT := hide ht
    clear ht
    by_cases hlt : k < l.length
    · obtain ⟨ad, rfl, hadb, c1, c2⟩ := (ha.below hb).ld hlt
      go_wp2_with fail
      refine (hg l[k] _ hb).mono ?_; rintro e x0 ⟨rfl, hx0⟩
      by_cases hp : p l[k] = true
      · go_wp2
        go_ret
        exact ⟨ret_int (idxI_at hlt HT.out hp).symm, by (repeat (first | with_reducible exact Below.refl _ _ | with_reducible assumption | with_reducible refine Below.drew ?_ | with_reducible refine Below.drewN ?_ _ | with_reducible refine Below.alloc1 ?_ _ | with_reducible refine Below.setCell1 ?_ (by first | omega | (simp; done) | (simp; omega)) _ | with_reducible refine Below.step ?_ (by with_reducible assumption)))⟩
      · have hp' : p l[k] = false := by simpa using hp
        go_wp2
        go_roundw
        case rel => exact ⟨k + 1, by omega, by go_num, none_take hlt HT.out hp', by (repeat (first | with_reducible exact Below.refl _ _ | with_reducible assumption | with_reducible refine Below.drew ?_ | with_reducible refine Below.drewN ?_ _ | with_reducible refine Below.alloc1 ?_ _ | with_reducible refine Below.setCell1 ?_ (by first | omega | (simp; done) | (simp; omega)) _ | with_reducible refine Below.step ?_ (by with_reducible assumption)))⟩
        case measure => simp [intOf]; omega
    · go_wp2
      go_ret
      exact ⟨ret_int (idxI_none (by have := HT.out; rwa [List.take_of_length_le (by omega)] at this)).symm, by (repeat (first | with_reducible exact Below.refl _ _ | with_reducible assumption | with_reducible refine Below.drew ?_ | with_reducible refine Below.drewN ?_ _ | with_reducible refine Below.alloc1 ?_ _ | with_reducible refine Below.setCell1 ?_ (by first | omega | (simp; done) | (simp; omega)) _ | with_reducible refine Below.step ?_ (by with_reducible assumption)))⟩
abbrev inV (x : Int) : Value := .int .i64 x
abbrev inR (l : List Int) : List Value := ints l
theorem Rd.in {w : World} {B : Nat} {A : Option Addr} {l : List Int} (h : Rd w B A (inR l)) {k : Nat} (hk : k < l.length) :
    ∃ ad, A = some ad ∧ ad.block < B ∧ w.cell? (ad.add k) = some (.int .i64 l[k]) := by
  obtain ⟨ad, e, hb, hc⟩ := Rd.at_ (xs := ints l) h (k := k) (by simpa using hk)
  exact ⟨ad, e, hb, by simpa using hc⟩
theorem in_IndexFunc (g : FuncId) (cap : Array Value) (p : Int → Bool) (w : World) (eg : ∀ args w, (callFunc g args).run Try.prog w = .ok (.enter g args) w) (hg : ∀ x W, Below w.heap.size w W → Calls Try.prog g (#[inV x] ++ cap) W fun e w' => e = .returned (.bool (p x)) ∧ Below W.heap.size W w')
    (A : Option Addr) (c : Nat) (l : List Int) (hl : l.length ≤ maxLen) (ha : Rd w w.heap.size A (inR l)) :
    Calls Try.prog 51 #[.slice A l.length c, .func (.func g) #[] cap] w fun e w' => e = .returned (.int .i64 (idxI p l)) ∧ Below w.heap.size w w' := by
  unfold maxLen at hl
  go_enter Try.func51, Try.ntmps51
  go_wp2
  go_loopw [8] (fun i wr => ∃ k : Nat, k ≤ l.length ∧ i = .int .i64 k ∧ (∀ x ∈ l.take k, p x = false) ∧ Below w.heap.size w wr) (fun i _ => l.length - (intOf i).toNat)
  case atStart => exact ⟨0, Nat.zero_le _, rfl, by simp, by (repeat (first | with_reducible exact Below.refl _ _ | with_reducible assumption | with_reducible refine Below.drew ?_ | with_reducible refine Below.drewN ?_ _ | with_reducible refine Below.alloc1 ?_ _ | with_reducible refine Below.setCell1 ?_ (by first | omega | (simp; done) | (simp; omega)) _ | with_reducible refine Below.step ?_ (by with_reducible assumption)))⟩
  case round =>
    obtain ⟨k, hk, rfl, ht, hb⟩ := hrel
    have HT := hide ht
    clear ht
    by_cases hlt : k < l.length
    · obtain ⟨ad, rfl, hadb, c1⟩ := (ha.below hb).in hlt
      go_wp2_with fail
      refine (hg l[k] _ hb).mono ?_; rintro e x0 ⟨rfl, hx0⟩
      by_cases hp : p l[k] = true
      · go_wp2
        go_ret
        exact ⟨ret_int (idxI_at hlt HT.out hp).symm, by (repeat (first | with_reducible exact Below.refl _ _ | with_reducible assumption | with_reducible refine Below.drew ?_ | with_reducible refine Below.drewN ?_ _ | with_reducible refine Below.alloc1 ?_ _ | with_reducible refine Below.setCell1 ?_ (by first | omega | (simp; done) | (simp; omega)) _ | with_reducible refine Below.step ?_ (by with_reducible assumption)))⟩
      · have hp' : p l[k] = false := by simpa using hp
        go_wp2
        go_roundw
        case rel => exact ⟨k + 1, by omega, by go_num, none_take hlt HT.out hp', by (repeat (first | with_reducible exact Below.refl _ _ | with_reducible assumption | with_reducible refine Below.drew ?_ | with_reducible refine Below.drewN ?_ _ | with_reducible refine Below.alloc1 ?_ _ | with_reducible refine Below.setCell1 ?_ (by first | omega | (simp; done) | (simp; omega)) _ | with_reducible refine Below.step ?_ (by with_reducible assumption)))⟩
        case measure => simp [intOf]; omega
    · go_wp2
      go_ret
      exact ⟨ret_int (idxI_none (by have := HT.out; rwa [List.take_of_length_le (by omega)] at this)).symm, by (repeat (first | with_reducible exact Below.refl _ _ | with_reducible assumption | with_reducible refine Below.drew ?_ | with_reducible refine Below.drewN ?_ _ | with_reducible refine Below.alloc1 ?_ _ | with_reducible refine Below.setCell1 ?_ (by first | omega | (simp; done) | (simp; omega)) _ | with_reducible refine Below.step ?_ (by with_reducible assumption)))⟩
theorem in_ContainsFunc (g : FuncId) (cap : Array Value) (p : Int → Bool) (w : World) (eg : ∀ args w, (callFunc g args).run Try.prog w = .ok (.enter g args) w) (hg : ∀ x W, Below w.heap.size w W → Calls Try.prog g (#[inV x] ++ cap) W fun e w' => e = .returned (.bool (p x)) ∧ Below W.heap.size W w')
    (A : Option Addr) (c : Nat) (l : List Int) (hl : l.length ≤ maxLen) (ha : Rd w w.heap.size A (inR l)) :
    Calls Try.prog 45 #[.slice A l.length c, .func (.func g) #[] cap] w fun e w' => e = .returned (.bool (l.any p)) ∧ Below w.heap.size w w' := by
  have h := in_IndexFunc g cap p w eg hg A c l hl ha
  rw [← idxI_any]
  generalize idxI p l = r at *
  clear hg eg
  go_enter Try.func45, Try.ntmps45
  go_wp2_with fail
  refine h.mono ?_; rintro e x0 ⟨rfl, hx0⟩
  go_wp2
  go_ret
  exact ⟨rfl, by (repeat (first | with_reducible exact Below.refl _ _ | with_reducible assumption | with_reducible refine Below.drew ?_ | with_reducible refine Below.drewN ?_ _ | with_reducible refine Below.alloc1 ?_ _ | with_reducible refine Below.setCell1 ?_ (by first | omega | (simp; done) | (simp; omega)) _ | with_reducible refine Below.step ?_ (by with_reducible assumption)))⟩
end Go.Proofs.Yteblbleehnkcmaa
