/- callboylaw18: what awake computes (plain). -/
import Derived.Test.YtolpiaehleefbaaAdm3
import Derived.Test.YtolpiaehleefbaaAdm4
namespace Go.Proofs.Ytolpiaehleefbaa
open Go.RowKit Go.Sort
set_option linter.unusedSimpArgs false
set_option linter.unusedVariables false

abbrev AS.C (x : AS) (A : Option Addr) (d : Nat) : List Value := azC x.t x.a A x.es.length d x.l x.s x.v x.le x.se
def wS (k : Nat) : AS := match k with
  | 0 => ⟨8, 0, [], 0, 0, -1, 0, 0⟩
  | 1 => ⟨7, 0, [⟨1, 2, 0⟩], 0, 0, -1, 1, 0⟩
  | 2 => ⟨6, 0, [⟨1, 1, 0⟩], 0, 0, -1, 2, 0⟩
  | _ => ⟨5, 0, [⟨1, 0, 0⟩], 0, 0, -1, 3, 0⟩
def wT : AS := ⟨5, 0, [⟨1, 0, 0⟩], 0, 0, -1, 3, 1⟩
def wA : AS := ⟨5, 0, [⟨1, 0, 0⟩], 3, 1, -1, 3, 1⟩
def wB : AS := ⟨5, 0, [⟨1, 0, 0⟩], 3, 1, -1, 3, 2⟩
theorem wN : aNew aUsual = (wS 0, 0) := by kernel_rfl
theorem wN0 : aNew ⟨0, 0, 0, 0, fun _ => 0, fun _ => 0, 0, fun _ => 0, fun _ => 0⟩ = (⟨0, 0, [], 0, 0, 0, 0, 0⟩, 8) := by kernel_rfl
theorem wAsk_0 : aAsk aUsual (wS 0) 1 0 9 = (wS 1, 0, 0) := by kernel_rfl
theorem wAsk_1 : aAsk aUsual (wS 1) 1 0 9 = (wS 2, 0, 0) := by kernel_rfl
theorem wAsk_2 : aAsk aUsual (wS 2) 1 0 9 = (wS 3, 0, 0) := by kernel_rfl
theorem wAsk {k : Nat} (h : k < 3) : aAsk aUsual (wS k) 1 0 9 = (wS (k + 1), 0, 0) := by
  have : k = 0 ∨ k = 1 ∨ k = 2 := by omega
  rcases this with rfl | rfl | rfl
  · exact wAsk_0
  · exact wAsk_1
  · exact wAsk_2
theorem wAsk3 : aAsk aUsual (wS 3) 1 0 6 = (wT, 14, 3) := by kernel_rfl
theorem wTick : aTick aUsual wT 100 1 = wA := by kernel_rfl
theorem wAskB : aAsk aUsual wA 2 1 5 = (wB, 15, 65) := by kernel_rfl
theorem wAskX : aAsk aUsual wA (-1) 1 5 = (wA, 2, 0) := by kernel_rfl
theorem wW1 : aWould aUsual wT 2 0 = 0 := by kernel_rfl
theorem wW2 : aWould aUsual wT 1 1 = 0 := by kernel_rfl
theorem wC : aCheck aUsual = 0 := by kernel_rfl
theorem wF : aFine aUsual wB = 0 := by kernel_rfl
theorem wF0 : aFine aUsual ⟨0, 0, [], 0, 0, 0, -1, 0⟩ = 8 := by kernel_rfl
theorem wE1 : aSame wA wB = false := by kernel_rfl
theorem wE2 : aSame wB wB = true := by kernel_rfl
end Go.Proofs.Ytolpiaehleefbaa
