/- Package drr: wrong, find, Check. -/
import Derived.Test.YteblbleehnkcmaaDrr
import Derived.Test.YteblbleehnkcmaaRel4
import Derived.Deep.DeepCutAuto
namespace Go.Proofs.Yteblbleehnkcmaa
open Go.RowKit Go.Sort
set_option linter.unusedSimpArgs false
set_option linter.unusedVariables false

def fWrong (x : Fl) : Bool := !dIn x.id 0 255 || !dIn x.wt 1 8 || !dIn x.df 0 1073741824
theorem fWrong_f {x : Fl} (h : fWrong x = false) : (0 ≤ x.id ∧ x.id ≤ 255) ∧ (1 ≤ x.wt ∧ x.wt ≤ 8) ∧ 0 ≤ x.df ∧ x.df ≤ 1073741824 := by
  simp [fWrong, dIn] at h; omega
theorem drr_wrong_any (x : Fl) (w : World) : Calls Try.prog 36 #[flV x] w fun e w' => e = .returned (.bool (fWrong x)) ∧ Below w.heap.size w w' := by
  have h1 := fun W => drr_in_any x.id 0 255 W
  have h2 := fun W => drr_in_any x.wt 1 8 W
  have h3 := fun W => drr_in_any x.df 0 1073741824 W
  have hf : ∀ a b c, dIn x.id 0 255 = a → dIn x.wt 1 8 = b → dIn x.df 0 1073741824 = c → fWrong x = (!a || !b || !c) := by rintro a b c rfl rfl rfl; rfl
  generalize dIn x.id 0 255 = b1 at *
  generalize dIn x.wt 1 8 = b2 at *
  generalize dIn x.df 0 1073741824 = b3 at *
  have hf := hf _ _ _ rfl rfl rfl
  rw [hf]
  clear hf
  go_enter Try.func36, Try.ntmps36
  go_wp2_with fail
  refine (h1 _).mono ?_; rintro e w1 ⟨rfl, rfl⟩
  cases b1 with
  | false =>
    go_wp2
    go_ret
    exact ⟨rfl, by (repeat (first | with_reducible exact Below.refl _ _ | with_reducible assumption | with_reducible refine Below.drew ?_ | with_reducible refine Below.drewN ?_ _ | with_reducible refine Below.alloc1 ?_ _ | with_reducible refine Below.setCell1 ?_ (by first | omega | (simp; done) | (simp; omega)) _ | with_reducible refine Below.step ?_ (by with_reducible assumption)))⟩
  | true =>
    go_wp2_with fail
    refine (h2 _).mono ?_; rintro e w1 ⟨rfl, rfl⟩
    cases b2 with
    | false =>
      go_wp2
      go_ret
      exact ⟨rfl, by (repeat (first | with_reducible exact Below.refl _ _ | with_reducible assumption | with_reducible refine Below.drew ?_ | with_reducible refine Below.drewN ?_ _ | with_reducible refine Below.alloc1 ?_ _ | with_reducible refine Below.setCell1 ?_ (by first | omega | (simp; done) | (simp; omega)) _ | with_reducible refine Below.step ?_ (by with_reducible assumption)))⟩
    | true =>
      go_wp2_with fail
      refine (h3 _).mono ?_; rintro e w1 ⟨rfl, rfl⟩
      cases b3
      all_goals
        go_wp2
        go_ret
        exact ⟨rfl, by (repeat (first | with_reducible exact Below.refl _ _ | with_reducible assumption | with_reducible refine Below.drew ?_ | with_reducible refine Below.drewN ?_ _ | with_reducible refine Below.alloc1 ?_ _ | with_reducible refine Below.setCell1 ?_ (by first | omega | (simp; done) | (simp; omega)) _ | with_reducible refine Below.step ?_ (by with_reducible assumption)))⟩
theorem drr_find1_any (x : Fl) (id : Int) (b : Nat) (w : World) (hb : b < w.heap.size) (hv : w.cell? ⟨b, 0, none⟩ = some (.int .i64 id)) :
    Calls Try.prog 50 (#[flV x] ++ #[.pointer (some ⟨b, 0, none⟩)]) w fun e w' => e = .returned (.bool (x.id == id)) ∧ Below w.heap.size w w' := by
  show Calls Try.prog 50 #[flV x, .pointer (some ⟨b, 0, none⟩)] w _
  go_enter Try.func50, Try.ntmps50
  go_wp2
  try go_quiet (fail)
  try go_wp2
  go_ret
  exact ⟨rfl, by (repeat (first | with_reducible exact Below.refl _ _ | with_reducible assumption | with_reducible refine Below.drew ?_ | with_reducible refine Below.drewN ?_ _ | with_reducible refine Below.alloc1 ?_ _ | with_reducible refine Below.setCell1 ?_ (by first | omega | (simp; done) | (simp; omega)) _ | with_reducible refine Below.step ?_ (by with_reducible assumption)))⟩
abbrev dsV (A : Option Addr) (n c : Nat) (at_ : Int) (mid : Bool) : Value := .agg #[.slice A n c, .int .i64 at_, .bool mid]
abbrev dsC (A : Option Addr) (n c : Nat) (at_ : Int) (mid : Bool) : List Value := [.slice A n c, .int .i64 at_, .bool mid]
def dFind (l : List Fl) (id : Int) : Int := idxI (fun f => f.id == id) l
theorem drr_find_any (A : Option Addr) (c : Nat) (l : List Fl) (at_ : Int) (mid : Bool) (id : Int) (w : World) (hl : l.length ≤ 1000) (ha : Rd w w.heap.size A (flR l)) :
    Calls Try.prog 37 #[dsV A l.length c at_ mid, .int .i64 id] w fun e w' => e = .returned (.int .i64 (dFind l id)) ∧ Below w.heap.size w w' := by
  have eg : ∀ args w, (callFunc 50 args).run Try.prog w = .ok (.enter 50 args) w := enters_of Try.func50 (by kernel_rfl) rfl
  have hI := fun (W : World) (b : Nat) (hb : b < W.heap.size) (hv : W.cell? ⟨b, 0, none⟩ = some (.int .i64 id)) (h : Below w.heap.size w W) => fl_IndexFunc 50 #[.pointer (some ⟨b, 0, none⟩)] (fun f => f.id == id) W eg (fun x W' h' => drr_find1_any x id b W' (Nat.lt_of_lt_of_le hb h'.size) ((h'.cell (p := ⟨b, 0, none⟩) hb).trans hv)) A c l (by unfold maxLen; omega) ((ha.below h).more h.size)
  unfold dFind
  clear eg
  generalize idxI (fun f : Fl => f.id == id) l = r at *
  go_enter Try.func37, Try.ntmps37
  go_wp2_with fail
  generalize hV : World.alloc (World.alloc w _) _ = w1
  have hb1 : Below w.heap.size w w1 := by subst hV; (repeat (first | with_reducible exact Below.refl _ _ | with_reducible assumption | with_reducible refine Below.drew ?_ | with_reducible refine Below.drewN ?_ _ | with_reducible refine Below.alloc1 ?_ _ | with_reducible refine Below.setCell1 ?_ (by first | omega | (simp; done) | (simp; omega)) _ | with_reducible refine Below.step ?_ (by with_reducible assumption)))
  have kv : Bk w1 (w.heap.size + 1) 3 [.int .i64 id] := by subst hV; (repeat (first | with_reducible exact Bk.new' _ _ _ _ (by simp; done) | with_reducible assumption | with_reducible refine Bk.alloc ?_ _ | with_reducible refine Bk.drew ?_ | with_reducible refine Bk.drewN ?_ _ | with_reducible refine Bk.step ?_ (by with_reducible assumption) | with_reducible refine Bk.far ?_ (by first | omega | (simp; done) | (simp; omega)) _))
  clear hV
  refine (hI w1 (w.heap.size + 1) kv.lt (kv.cell 0) hb1).mono ?_; rintro e x0 ⟨rfl, hx0⟩
  go_wp2
  go_ret
  exact ⟨rfl, by (repeat (first | with_reducible exact Below.refl _ _ | with_reducible assumption | with_reducible refine Below.drew ?_ | with_reducible refine Below.drewN ?_ _ | with_reducible refine Below.alloc1 ?_ _ | with_reducible refine Below.setCell1 ?_ (by first | omega | (simp; done) | (simp; omega)) _ | with_reducible refine Below.step ?_ (by with_reducible assumption)))⟩
end Go.Proofs.Yteblbleehnkcmaa
