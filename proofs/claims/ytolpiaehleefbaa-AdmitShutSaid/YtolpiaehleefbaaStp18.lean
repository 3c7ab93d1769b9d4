/- callboylaw18: the steps of a stretch as they lie in memory; what New gives. -/
import Derived.Test.YtolpiaehleefbaaRun18a
namespace Go.Proofs.Ytolpiaehleefbaa
open Go.RowKit Go.Sort
set_option linter.unusedSimpArgs false
set_option linter.unusedVariables false

abbrev stpC (x : Int × Int × Int × Int) : List Value := [.int .u8 x.1, .int .u8 x.2.1, .int .u8 x.2.2.1, .int .u16 x.2.2.2]
abbrev stpR (l : List (Int × Int × Int × Int)) : List Value := l.flatMap stpC
theorem Rd.stps {w : World} {B : Nat} {A : Option Addr} {l : List (Int × Int × Int × Int)} (h : Rd w B A (stpR l)) {k : Nat} (hk : k < l.length) :
    ∃ ad, A = some ad ∧ ad.block < B ∧ w.cell? (ad.add (k * 4)) = some (.int .u8 l[k].1) ∧ w.cell? { block := (ad.add (k * 4)).block, off := (ad.add (k * 4)).off + 1 } = some (.int .u8 l[k].2.1) ∧
      w.cell? { block := (ad.add (k * 4)).block, off := (ad.add (k * 4)).off + 2 } = some (.int .u8 l[k].2.2.1) ∧ w.cell? { block := (ad.add (k * 4)).block, off := (ad.add (k * 4)).off + 3 } = some (.int .u16 l[k].2.2.2) := by
  have hl : ∀ (l : List (Int × Int × Int × Int)) (k : Nat) (hk : k < l.length), (stpR l)[k * 4]? = some (.int .u8 l[k].1) ∧ (stpR l)[k * 4 + 1]? = some (.int .u8 l[k].2.1) ∧ (stpR l)[k * 4 + 2]? = some (.int .u8 l[k].2.2.1) ∧ (stpR l)[k * 4 + 3]? = some (.int .u16 l[k].2.2.2) := by
    intro l
    induction l with
    | nil => intro k hk; simp at hk
    | cons a l ih =>
      intro k hk
      cases k with
      | zero => simp [stpR]
      | succ k =>
        have := ih k (by simpa using hk)
        have e : ∀ j, (stpR (a :: l))[(k + 1) * 4 + j]? = (stpR l)[k * 4 + j]? := fun j => by
          rw [show (k + 1) * 4 + j = (k * 4 + j) + 4 by omega]
          simp [stpR]
        have e0 := e 0
        simp only [Nat.add_zero] at e0
        rw [e0, e 1, e 2, e 3]
        simpa using this
  obtain ⟨q0, q1, q2, q3⟩ := hl l k hk
  obtain ⟨ad, e, hb, hc⟩ := h (by intro e; rw [e] at q0; simp at q0)
  have ha : ∀ (x : Addr) (n : Nat), x.add (n + 1) = { block := x.block, off := x.off + (n + 1) } := fun x n => by simp [Addr.add]
  exact ⟨ad, e, hb, hc _ _ q0, by have := hc _ _ q1; rwa [← add_add', ha] at this, by have := hc _ _ q2; rwa [← add_add', ha] at this, by have := hc _ _ q3; rwa [← add_add', ha] at this⟩
theorem aNew_mk {b1 r1 b2 r2 : Int} (h1 : bGood b1 r1 = true) (h2 : bGood b2 r2 = true) : aNew (mkC b1 r1 b2 r2) = (⟨b1, 0, [], 0, 0, -1, 0, 0⟩, 0) := by
  unfold aNew
  rw [aCheck_mk h1 h2]; rfl
end Go.Proofs.Ytolpiaehleefbaa
