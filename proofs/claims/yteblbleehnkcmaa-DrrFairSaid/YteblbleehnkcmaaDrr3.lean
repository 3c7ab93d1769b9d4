/- Package drr: Check, Same. -/
import Derived.Test.YteblbleehnkcmaaDrr2
namespace Go.Proofs.Yteblbleehnkcmaa
open Go.RowKit Go.Sort
set_option linter.unusedSimpArgs false
set_option linter.unusedVariables false

def dOnce (l : List Fl) : Bool := (List.range l.length).all fun (i : Nat) => dFind l (l.getD i default).id == (i : Int)
def dPlace (n : Nat) (at_ : Int) (mid : Bool) : Bool := dIn at_ 0 (max (n : Int) 1 - 1) && !(mid && decide (n = 0))
def dCheck (l : List Fl) (at_ : Int) (mid : Bool) : Int :=
  if 16 < l.length then 5 else if l.any fWrong = true then 8 else if dOnce l = false then 13 else if dPlace l.length at_ mid = false then 9 else 0
theorem getD_at' {α : Type} (l : List α) (k : Nat) (h : k < l.length) (d : α) : l.getD k d = l[k] := by simp [h]
theorem dOnce_bad {l : List Fl} {k : Nat} (hk : k < l.length) (h : dFind l l[k].id ≠ k) : dOnce l = false := by
  unfold dOnce
  rw [List.all_eq_false]
  exact ⟨k, List.mem_range.2 hk, by rw [getD_at' _ _ hk]; simpa using h⟩
theorem dOnce_end {l : List Fl} (h : ∀ k, (hk : k < l.length) → dFind l l[k].id = k) : dOnce l = true := by
  unfold dOnce
  rw [List.all_eq_true]
  intro i hi
  have hi' := List.mem_range.1 hi
  rw [getD_at' _ _ hi', beq_iff_eq]
  exact h i hi'
set_option maxRecDepth 100000 in
set_option maxHeartbeats 4000000 in
theorem drr_Check_any (A : Option Addr) (c : Nat) (l : List Fl) (at_ : Int) (mid : Bool) (w : World) (hl : l.length ≤ 1000) (ha : Rd w w.heap.size A (flR l)) :
    Calls Try.prog 22 #[dsV A l.length c at_ mid] w fun e w' => e = .returned (.int .i64 (dCheck l at_ mid)) ∧ Below w.heap.size w w' := by
  have eg : ∀ args w, (callFunc 36 args).run Try.prog w = .ok (.enter 36 args) w := enters_of Try.func36 (by kernel_rfl) rfl
  have hW := fun (W : World) (h : Below w.heap.size w W) => fl_ContainsFunc 36 #[] fWrong W eg (fun x W' _ => drr_wrong_any x W') A c l (by unfold maxLen; omega) ((ha.below h).more h.size)
  have hF := fun (W : World) (id : Int) (h : Below w.heap.size w W) => drr_find_any A c l at_ mid id W hl ((ha.below h).more h.size)
  clear eg
  by_cases h16 : 16 < l.length
  · have hr : dCheck l at_ mid = 5 := by unfold dCheck; rw [if_pos h16]
    have g16 : (16 : Int) < l.length := by omega
    go_enter Try.func22, Try.ntmps22
    go_wp2
    go_ret
    first | exact ⟨ret_int hr.symm, by (repeat (first | with_reducible exact Below.refl _ _ | with_reducible assumption | with_reducible refine Below.drew ?_ | with_reducible refine Below.drewN ?_ _ | with_reducible refine Below.alloc1 ?_ _ | with_reducible refine Below.setCell1 ?_ (by first | omega | (simp; done) | (simp; omega)) _ | with_reducible refine Below.step ?_ (by with_reducible assumption)))⟩ | exact ⟨rfl, by (repeat (first | with_reducible exact Below.refl _ _ | with_reducible assumption | with_reducible refine Below.drew ?_ | with_reducible refine Below.drewN ?_ _ | with_reducible refine Below.alloc1 ?_ _ | with_reducible refine Below.setCell1 ?_ (by first | omega | (simp; done) | (simp; omega)) _ | with_reducible refine Below.step ?_ (by with_reducible assumption)))⟩
  · have g16 : (l.length : Int) ≤ 16 := by omega
    have hr1 : dCheck l at_ mid = if l.any fWrong = true then 8 else if dOnce l = false then 13 else if dPlace l.length at_ mid = false then 9 else 0 := by unfold dCheck; rw [if_neg h16]
    have HR := hide hr1
    clear hr1 h16
    go_enter Try.func22, Try.ntmps22
    go_wp2_with fail
    generalize hV : World.alloc w _ = w1
    have hb1 : Below w.heap.size w w1 := by subst hV; (repeat (first | with_reducible exact Below.refl _ _ | with_reducible assumption | with_reducible refine Below.drew ?_ | with_reducible refine Below.drewN ?_ _ | with_reducible refine Below.alloc1 ?_ _ | with_reducible refine Below.setCell1 ?_ (by first | omega | (simp; done) | (simp; omega)) _ | with_reducible refine Below.step ?_ (by with_reducible assumption)))
    have k0 : Bk w1 w.heap.size 31 (dsC A l.length c at_ mid) := by subst hV; (repeat (first | with_reducible exact Bk.new' _ _ _ _ (by simp; done) | with_reducible assumption | with_reducible refine Bk.alloc ?_ _ | with_reducible refine Bk.drew ?_ | with_reducible refine Bk.drewN ?_ _ | with_reducible refine Bk.step ?_ (by with_reducible assumption) | with_reducible refine Bk.far ?_ (by first | omega | (simp; done) | (simp; omega)) _))
    clear hV
    refine (hW _ hb1).mono ?_; rintro e x0 ⟨rfl, hx0⟩
    replace k0 := k0.step hx0
    replace hb1 : Below w.heap.size w x0 := hb1.step hx0
    clear hx0 hW
    have k0_0 := k0.cell 0; have k0_f0 := k0.frozen 0; have k0_1 := k0.cell 1; have k0_f1 := k0.frozen 1; have k0_2 := k0.cell 2; have k0_f2 := k0.frozen 2; simp only [List.set_cons_zero, List.set_cons_succ, List.getElem?_cons_zero, List.getElem?_cons_succ] at k0_0 k0_1 k0_2; have lt_k0 := k0.lt
    by_cases ho : l.any fWrong = true
    · have hr : dCheck l at_ mid = 8 := by rw [HR.out, if_pos ho]
      go_wp2
      go_ret
      first | exact ⟨ret_int hr.symm, by (repeat (first | with_reducible exact Below.refl _ _ | with_reducible assumption | with_reducible refine Below.drew ?_ | with_reducible refine Below.drewN ?_ _ | with_reducible refine Below.alloc1 ?_ _ | with_reducible refine Below.setCell1 ?_ (by first | omega | (simp; done) | (simp; omega)) _ | with_reducible refine Below.step ?_ (by with_reducible assumption)))⟩ | exact ⟨rfl, by (repeat (first | with_reducible exact Below.refl _ _ | with_reducible assumption | with_reducible refine Below.drew ?_ | with_reducible refine Below.drewN ?_ _ | with_reducible refine Below.alloc1 ?_ _ | with_reducible refine Below.setCell1 ?_ (by first | omega | (simp; done) | (simp; omega)) _ | with_reducible refine Below.step ?_ (by with_reducible assumption)))⟩
    · have ho' : l.any fWrong = false := eq_false_of_ne_true ho
      have hr2 := HR.out
      rw [if_neg ho] at hr2
      replace HR := hide hr2
      clear hr2 ho
      go_wp2
      (try clear k0_0 k0_f0 k0_1 k0_f1 k0_2 k0_f2 lt_k0)
      go_loopw [17] (fun i wr => ∃ k : Nat, k ≤ l.length ∧ i = .int .i64 k ∧ (∀ j, (hj : j < l.length) → j < k → dFind l l[j].id = j) ∧ Bk wr w.heap.size 31 (dsC A l.length c at_ mid) ∧ Below w.heap.size w wr) (fun i _ => l.length - (intOf i).toNat)
      case atStart => exact ⟨0, Nat.zero_le _, rfl, fun j _ h => absurd h (Nat.not_lt_zero _), k0, hb1⟩
      case round =>
        clear k0 hb1
        obtain ⟨k, hk, rfl, ht, j0, hbr⟩ := hrel
        have HT := hide ht
        clear ht
        have j0_0 := j0.cell 0; have j0_f0 := j0.frozen 0; have j0_1 := j0.cell 1; have j0_f1 := j0.frozen 1; have j0_2 := j0.cell 2; have j0_f2 := j0.frozen 2; simp only [List.set_cons_zero, List.set_cons_succ, List.getElem?_cons_zero, List.getElem?_cons_succ] at j0_0 j0_1 j0_2; have lt_j0 := j0.lt
        by_cases hlt : k < l.length
        · obtain ⟨ad, rfl, hadb, c1, c2, c3⟩ := (ha.below hbr).fl hlt
          have HB := hide (dOnce_bad hlt)
          have HN := hide (fun (h : dFind l l[k].id = k) => show ∀ j, (hj : j < l.length) → j < k + 1 → dFind l l[j].id = j from fun j hj hjk => by
            rcases Nat.lt_succ_iff_lt_or_eq.1 hjk with h9 | rfl
            · exact HT.out j hj h9
            · exact h)
          clear HT
          generalize l[k] = x at *
          have hFx := hF
          go_wp2_with fail
          generalize hV : World.alloc wr _ = w2
          have hy : Below wr.heap.size wr w2 := by subst hV; (repeat (first | with_reducible exact Below.refl _ _ | with_reducible assumption | with_reducible refine Below.drew ?_ | with_reducible refine Below.drewN ?_ _ | with_reducible refine Below.alloc1 ?_ _ | with_reducible refine Below.setCell1 ?_ (by first | omega | (simp; done) | (simp; omega)) _ | with_reducible refine Below.step ?_ (by with_reducible assumption)))
          replace hbr : Below w.heap.size w w2 := hbr.step hy
          clear hV
          replace j0 := j0.step hy; (try clear j0_0 j0_f0 j0_1 j0_f1 j0_2 j0_f2); have j0_0 := j0.cell 0; have j0_f0 := j0.frozen 0; have j0_1 := j0.cell 1; have j0_f1 := j0.frozen 1; have j0_2 := j0.cell 2; have j0_f2 := j0.frozen 2; simp only [List.set_cons_zero, List.set_cons_succ, List.getElem?_cons_zero, List.getElem?_cons_succ] at j0_0 j0_1 j0_2; (try clear lt_j0); have lt_j0 := j0.lt
          clear hy
          refine (hFx _ x.id hbr).mono ?_; rintro e x3 ⟨rfl, hx3⟩
          replace hbr : Below w.heap.size w x3 := hbr.step hx3
          replace j0 := j0.step hx3; (try clear j0_0 j0_f0 j0_1 j0_f1 j0_2 j0_f2); have j0_0 := j0.cell 0; have j0_f0 := j0.frozen 0; have j0_1 := j0.cell 1; have j0_f1 := j0.frozen 1; have j0_2 := j0.cell 2; have j0_f2 := j0.frozen 2; simp only [List.set_cons_zero, List.set_cons_succ, List.getElem?_cons_zero, List.getElem?_cons_succ] at j0_0 j0_1 j0_2; (try clear lt_j0); have lt_j0 := j0.lt
          clear hx3 hFx
          by_cases hd : dFind l x.id = k
          · have hn := hide (HN.out hd)
            have d1 : (dFind l x.id != (k : Int)) = false := by rw [bne_eq_false_iff_eq]; exact hd
            clear HN HB hd
            go_wp2
            go_roundw
            case rel => exact ⟨k + 1, by omega, by go_num, hn.out, j0, hbr⟩
            case measure => simp [intOf]; omega
          · have hr : dCheck l at_ mid = 13 := by rw [HR.out, if_pos (HB.out hd)]
            have d1 : (dFind l x.id != (k : Int)) = true := by rw [bne_iff_ne]; exact hd
            clear HN HB hd
            go_wp2
            go_ret
            first | exact ⟨ret_int hr.symm, by (repeat (first | with_reducible exact Below.refl _ _ | with_reducible assumption | with_reducible refine Below.drew ?_ | with_reducible refine Below.drewN ?_ _ | with_reducible refine Below.alloc1 ?_ _ | with_reducible refine Below.setCell1 ?_ (by first | omega | (simp; done) | (simp; omega)) _ | with_reducible refine Below.step ?_ (by with_reducible assumption)))⟩ | exact ⟨rfl, by (repeat (first | with_reducible exact Below.refl _ _ | with_reducible assumption | with_reducible refine Below.drew ?_ | with_reducible refine Below.drewN ?_ _ | with_reducible refine Below.alloc1 ?_ _ | with_reducible refine Below.setCell1 ?_ (by first | omega | (simp; done) | (simp; omega)) _ | with_reducible refine Below.step ?_ (by with_reducible assumption)))⟩
        · have h1 := dOnce_end (l := l) (fun j hj => HT.out j hj (by omega))
          have hr2 := HR.out
          rw [if_neg (by rw [h1]; simp)] at hr2
          replace HR := hide hr2
          clear HT hF h1 HR
          have HR := hide hr2
          clear hr2
          by_cases hz : l.length = 0
          · obtain rfl : l = [] := List.length_eq_zero_iff.1 hz
            have hin := fun W => drr_in_any at_ 0 0 W
            have hpl : ∀ b, dIn at_ 0 0 = b → dPlace 0 at_ mid = (b && !mid) := by rintro b rfl; show (dIn at_ 0 0 && !(mid && decide (0 = 0))) = _; simp
            generalize dIn at_ 0 0 = bi at *
            have hp := hpl _ rfl
            have hr2 := HR.out
            rw [List.length_nil, hp] at hr2
            replace HR := hide hr2
            clear hr2 hp hpl hz hlt
            go_wp2_with fail
            refine (hin _).mono ?_; rintro e x3 ⟨rfl, rfl⟩
            cases bi <;> cases mid
            all_goals
              have hr2 := HR.out
              simp at hr2
              go_wp2
              go_ret
              first | exact ⟨ret_int hr2.symm, by (repeat (first | with_reducible exact Below.refl _ _ | with_reducible assumption | with_reducible refine Below.drew ?_ | with_reducible refine Below.drewN ?_ _ | with_reducible refine Below.alloc1 ?_ _ | with_reducible refine Below.setCell1 ?_ (by first | omega | (simp; done) | (simp; omega)) _ | with_reducible refine Below.step ?_ (by with_reducible assumption)))⟩ | exact ⟨rfl, by (repeat (first | with_reducible exact Below.refl _ _ | with_reducible assumption | with_reducible refine Below.drew ?_ | with_reducible refine Below.drewN ?_ _ | with_reducible refine Below.alloc1 ?_ _ | with_reducible refine Below.setCell1 ?_ (by first | omega | (simp; done) | (simp; omega)) _ | with_reducible refine Below.step ?_ (by with_reducible assumption)))⟩
          · have g1 : (1 : Int) ≤ l.length := by omega
            have d0 : ((l.length : Int) == 0) = false := by rw [beq_eq_false_iff_ne]; omega
            have hin := fun W => drr_in_any at_ 0 ((l.length : Int) - 1) W
            have hpl : ∀ b, dIn at_ 0 ((l.length : Int) - 1) = b → dPlace l.length at_ mid = b := by rintro b rfl; unfold dPlace; rw [Int.max_eq_left g1, decide_eq_false hz]; simp
            generalize dIn at_ 0 ((l.length : Int) - 1) = bi at *
            have hp := hpl _ rfl
            have hr2 := HR.out
            rw [hp] at hr2
            replace HR := hide hr2
            clear hr2 hp hpl hz
            go_wp2_with fail
            refine (hin _).mono ?_; rintro e x3 ⟨rfl, rfl⟩
            cases bi <;> cases mid
            all_goals
              have hr2 := HR.out
              simp at hr2
              go_wp2
              go_ret
              first | exact ⟨ret_int hr2.symm, by (repeat (first | with_reducible exact Below.refl _ _ | with_reducible assumption | with_reducible refine Below.drew ?_ | with_reducible refine Below.drewN ?_ _ | with_reducible refine Below.alloc1 ?_ _ | with_reducible refine Below.setCell1 ?_ (by first | omega | (simp; done) | (simp; omega)) _ | with_reducible refine Below.step ?_ (by with_reducible assumption)))⟩ | exact ⟨rfl, by (repeat (first | with_reducible exact Below.refl _ _ | with_reducible assumption | with_reducible refine Below.drew ?_ | with_reducible refine Below.drewN ?_ _ | with_reducible refine Below.alloc1 ?_ _ | with_reducible refine Below.setCell1 ?_ (by first | omega | (simp; done) | (simp; omega)) _ | with_reducible refine Below.step ?_ (by with_reducible assumption)))⟩
theorem drr_Same_any (A A' : Option Addr) (c c' : Nat) (l l' : List Fl) (at_ at' : Int) (mid mid' : Bool) (w : World) (hl : l.length ≤ maxLen) (ha : Rd w w.heap.size A (flR l)) (ha' : Rd w w.heap.size A' (flR l')) :
    Calls Try.prog 24 #[dsV A l.length c at_ mid, dsV A' l'.length c' at' mid'] w fun e w' => e = .returned (.bool (decide (at_ = at') && decide (mid = mid') && decide (l = l'))) ∧ Below w.heap.size w w' := by
  have hE := fun (W : World) (h : Below w.heap.size w W) => fl_Equal A A' c c' l l' W hl ((ha.below h).more h.size) ((ha'.below h).more h.size)
  generalize decide (l = l') = bl at *
  by_cases h1 : at_ = at'
  · by_cases h2 : mid = mid'
    · subst h1 h2
      have hf : (decide (at_ = at_) && decide (mid = mid) && bl) = bl := by simp
      rw [hf]
      clear hf
      go_enter Try.func24, Try.ntmps24
      go_wp2_with fail
      generalize hV : World.alloc (World.alloc w _) _ = w1
      have hb1 : Below w.heap.size w w1 := by subst hV; (repeat (first | with_reducible exact Below.refl _ _ | with_reducible assumption | with_reducible refine Below.drew ?_ | with_reducible refine Below.drewN ?_ _ | with_reducible refine Below.alloc1 ?_ _ | with_reducible refine Below.setCell1 ?_ (by first | omega | (simp; done) | (simp; omega)) _ | with_reducible refine Below.step ?_ (by with_reducible assumption)))
      clear hV
      refine (hE _ hb1).mono ?_; rintro e x0 ⟨rfl, n, rfl⟩
      go_wp2
      go_ret
      exact ⟨rfl, hb1.drewN n⟩
    · have hf : (decide (at_ = at') && decide (mid = mid') && bl) = false := by simp [h2]
      subst h1
      cases mid <;> cases mid'
      all_goals first
        | exact absurd rfl h2
        | (go_enter Try.func24, Try.ntmps24
           go_wp2
           go_ret
           first | exact ⟨ret_bool hf.symm, by (repeat (first | with_reducible exact Below.refl _ _ | with_reducible assumption | with_reducible refine Below.drew ?_ | with_reducible refine Below.drewN ?_ _ | with_reducible refine Below.alloc1 ?_ _ | with_reducible refine Below.setCell1 ?_ (by first | omega | (simp; done) | (simp; omega)) _ | with_reducible refine Below.step ?_ (by with_reducible assumption)))⟩ | exact ⟨rfl, by (repeat (first | with_reducible exact Below.refl _ _ | with_reducible assumption | with_reducible refine Below.drew ?_ | with_reducible refine Below.drewN ?_ _ | with_reducible refine Below.alloc1 ?_ _ | with_reducible refine Below.setCell1 ?_ (by first | omega | (simp; done) | (simp; omega)) _ | with_reducible refine Below.step ?_ (by with_reducible assumption)))⟩)
  · have d1 : (at_ == at') = false := by rw [beq_eq_false_iff_ne]; exact h1
    have hf : (decide (at_ = at') && decide (mid = mid') && bl) = false := by simp [h1]
    go_enter Try.func24, Try.ntmps24
    go_wp2
    go_ret
    first | exact ⟨ret_bool hf.symm, by (repeat (first | with_reducible exact Below.refl _ _ | with_reducible assumption | with_reducible refine Below.drew ?_ | with_reducible refine Below.drewN ?_ _ | with_reducible refine Below.alloc1 ?_ _ | with_reducible refine Below.setCell1 ?_ (by first | omega | (simp; done) | (simp; omega)) _ | with_reducible refine Below.step ?_ (by with_reducible assumption)))⟩ | exact ⟨rfl, by (repeat (first | with_reducible exact Below.refl _ _ | with_reducible assumption | with_reducible refine Below.drew ?_ | with_reducible refine Below.drewN ?_ _ | with_reducible refine Below.alloc1 ?_ _ | with_reducible refine Below.setCell1 ?_ (by first | omega | (simp; done) | (simp; omega)) _ | with_reducible refine Below.step ?_ (by with_reducible assumption)))⟩
end Go.Proofs.Yteblbleehnkcmaa
