/- Package source: may, Check, Sources, Same. -/
import Derived.Test.YtolpiaehleefbaaSrc
import Derived.Test.YtolpiaehleefbaaA1
namespace Go.Proofs.Ytolpiaehleefbaa
open Go.RowKit Go.Sort
set_option linter.unusedSimpArgs false
set_option linter.unusedVariables false

def sMay (n : Int) : Bool := decide (0 ≤ n) && decide (n ≤ 65535)
def eBad (b r : Int) (x : En) : Bool := !sMay x.s || !bFine b r x.t x.a
def eOrd : List En → Bool
  | [] => true
  | [_] => true
  | x :: y :: r => decide (x.s < y.s) && eOrd (y :: r)
def eCheck (b r : Int) (l : List En) : Int := if bCheck b r ≠ 0 then bCheck b r else if 8 < l.length then 5 else if l.any (eBad b r) = true then 8 else if eOrd l = false then 10 else 0
theorem eOrd_step {l : List En} {k : Nat} (h : k + 1 < l.length) : eOrd (l.drop k) = (decide (l[k].s < l[k + 1].s) && eOrd (l.drop (k + 1))) := by
  rw [List.drop_eq_getElem_cons (by omega : k < l.length), List.drop_eq_getElem_cons h, eOrd]
theorem eOrd_last {l : List En} {k : Nat} (h : l.length ≤ k + 1) : eOrd (l.drop k) = true := by
  have : (l.drop k).length ≤ 1 := by rw [List.length_drop]; omega
  rcases hd : l.drop k with _ | ⟨a, _ | ⟨b, r⟩⟩
  · rfl
  · rfl
  · rw [hd] at this; simp at this
theorem eOrd_lt {l : List En} (h : eOrd l = true) {i j : Nat} (hij : i < j) (hj : j < l.length) : l[i].s < l[j].s := by
  have one : ∀ k (hk : k + 1 < l.length), eOrd (l.drop k) = true → l[k].s < l[k + 1].s ∧ eOrd (l.drop (k + 1)) = true := fun k hk he => by
    rw [eOrd_step hk] at he
    simpa using he
  have all : ∀ k, k < l.length → eOrd (l.drop k) = true := fun k => by
    induction k with
    | zero => intro _; simpa using h
    | succ k ih => intro hk; exact (one k hk (ih (by omega))).2
  have key : ∀ d (hd : i + 1 + d < l.length), l[i].s < l[i + 1 + d].s := fun d => by
    induction d with
    | zero => intro hd; exact (one i hd (all i (by omega))).1
    | succ d ih =>
      intro hd
      exact Int.lt_trans (ih (by omega)) (one (i + 1 + d) hd (all _ (by omega))).1
  have := key (j - i - 1) (by omega)
  have e : i + 1 + (j - i - 1) = j := by omega
  simpa only [e] using this
theorem eCheck_ok {b r : Int} {l : List En} (h : eCheck b r l = 0) : bGood b r = true ∧ l.length ≤ 8 ∧ (∀ x ∈ l, sMay x.s = true ∧ bFine b r x.t x.a = true) ∧ eOrd l = true := by
  unfold eCheck at h
  split at h
  · rename_i h1; exact absurd h h1
  · rename_i h1
    split at h
    · cases h
    · rename_i h2
      split at h
      · cases h
      · rename_i h3
        split at h
        · cases h
        · rename_i h4
          refine ⟨?_, by omega, fun x hx => ?_, by simpa using h4⟩
          · unfold bCheck at h1
            cases hg : bGood b r with
            | true => rfl
            | false => rw [hg] at h1; simp at h1
          · have : eBad b r x = false := by
              rw [Bool.eq_false_iff]; intro hb; exact h3 (List.any_eq_true.2 ⟨x, hx, hb⟩)
            unfold eBad at this
            simpa using this
theorem eCheck_of {b r : Int} {l : List En} (h1 : bGood b r = true) (h2 : l.length ≤ 8) (h3 : ∀ x ∈ l, sMay x.s = true ∧ bFine b r x.t x.a = true) (h4 : eOrd l = true) : eCheck b r l = 0 := by
  have hb : bCheck b r = 0 := by unfold bCheck; rw [if_pos h1]
  have ha : l.any (eBad b r) = false := by
    rw [List.any_eq_false]
    intro x hx
    obtain ⟨a, b⟩ := h3 x hx
    simp [eBad, a, b]
  unfold eCheck
  rw [if_neg (by simp [hb]), if_neg (by omega), ha, h4]
  simp
theorem source_may_any (n : Int) (w : World) : Calls Try.prog 74 #[.int .i64 n] w fun e w' => e = .returned (.bool (sMay n)) ∧ w = w' := by
  by_cases h1 : 0 ≤ n <;> by_cases h2 : n ≤ 65535
  all_goals
    go_enter Try.func74, Try.ntmps74
    go_wp2
    go_ret
    exact ⟨ret_bool (by simp [sMay, *]), rfl⟩
theorem source_Check1_any (x : En) (b r : Int) (g : Nat) (w : World) (hg : g < w.heap.size) (h0 : w.cell? ⟨g, 0, none⟩ = some (.int .i64 b)) (h1 : w.cell? ⟨g, 1, none⟩ = some (.int .i64 r)) :
    Calls Try.prog 95 (#[enV x] ++ #[.pointer (some ⟨g, 0, none⟩)]) w fun e w' => e = .returned (.bool (eBad b r x)) ∧ Below w.heap.size w w' := by
  show Calls Try.prog 95 #[enV x, .pointer (some ⟨g, 0, none⟩)] w _
  have hm := fun w => source_may_any x.s w
  have hf := fun w => bucket_Fine_any b r x.t x.a w
  have HE := hide (show eBad b r x = (!sMay x.s || !bFine b r x.t x.a) from rfl)
  generalize sMay x.s = m at *
  generalize bFine b r x.t x.a = f at *
  go_enter Try.func95, Try.ntmps95
  cases m with
  | false =>
    go_wp2_with fail
    refine (hm _).mono ?_; rintro e w1 ⟨rfl, rfl⟩
    go_wp2
    go_ret
    exact ⟨ret_bool (by rw [HE.out]; rfl), by (repeat (first | with_reducible exact Below.refl _ _ | with_reducible assumption | with_reducible refine Below.drew ?_ | with_reducible refine Below.drewN ?_ _ | with_reducible refine Below.alloc1 ?_ _ | with_reducible refine Below.setCell1 ?_ (by first | omega | (simp; done) | (simp; omega)) _ | with_reducible refine Below.step ?_ (by with_reducible assumption)))⟩
  | true =>
    go_wp2_with fail
    refine (hm _).mono ?_; rintro e w1 ⟨rfl, rfl⟩
    go_wp2_with fail
    refine (hf _).mono ?_; rintro e w1 ⟨rfl, hy⟩
    go_wp2
    go_ret
    exact ⟨ret_bool (by rw [HE.out]; rfl), by (repeat (first | with_reducible exact Below.refl _ _ | with_reducible assumption | with_reducible refine Below.drew ?_ | with_reducible refine Below.drewN ?_ _ | with_reducible refine Below.alloc1 ?_ _ | with_reducible refine Below.setCell1 ?_ (by first | omega | (simp; done) | (simp; omega)) _ | with_reducible refine Below.step ?_ (by with_reducible assumption)))⟩
set_option maxRecDepth 100000 in
set_option maxHeartbeats 4000000 in
theorem source_Check_any (A : Option Addr) (c : Nat) (b r : Int) (l : List En) (w : World) (hl : l.length ≤ 1000) (ha : Rd w w.heap.size A (enR l)) :
    Calls Try.prog 55 #[.agg #[.int .i64 b, .int .i64 r], .slice A l.length c] w fun e w' => e = .returned (.int .i64 (eCheck b r l)) ∧ Below w.heap.size w w' := by
  have eg : ∀ args w, (callFunc 95 args).run Try.prog w = .ok (.enter 95 args) w := enters_of Try.func95 (by kernel_rfl) rfl
  have hW := fun (W : World) (g : Nat) (k : Bk W g 40 [.int .i64 b, .int .i64 r]) (h : Below w.heap.size w W) => en_ContainsFunc 95 #[.pointer (some ⟨g, 0, none⟩)] (eBad b r) W eg (fun x W' h' => source_Check1_any x b r g W' (k.step h').lt ((k.step h').cell 0) ((k.step h').cell 1)) A c l (by unfold maxLen; omega) ((ha.below h).more h.size)
  clear eg
  have hB := fun W => bucket_Check_any b r W
  by_cases h1 : bCheck b r = 0
  · have hr1 : eCheck b r l = if 8 < l.length then 5 else if l.any (eBad b r) = true then 8 else if eOrd l = false then 10 else 0 := by unfold eCheck; rw [if_neg (by simp [h1])]
    rw [h1] at hB
    clear h1
    by_cases h2 : 8 < l.length
    · have g2 : (8 : Int) < (l.length : Int) := by omega
      rw [if_pos h2] at hr1
      go_enter Try.func55, Try.ntmps55
      go_wp2_with fail
      refine (hB _).mono ?_; rintro e x0 ⟨rfl, hx0⟩
      go_wp2
      go_ret
      first | exact ⟨ret_int hr1.symm, by (repeat (first | with_reducible exact Below.refl _ _ | with_reducible assumption | with_reducible refine Below.drew ?_ | with_reducible refine Below.drewN ?_ _ | with_reducible refine Below.alloc1 ?_ _ | with_reducible refine Below.setCell1 ?_ (by first | omega | (simp; done) | (simp; omega)) _ | with_reducible refine Below.step ?_ (by with_reducible assumption)))⟩ | exact ⟨rfl, by (repeat (first | with_reducible exact Below.refl _ _ | with_reducible assumption | with_reducible refine Below.drew ?_ | with_reducible refine Below.drewN ?_ _ | with_reducible refine Below.alloc1 ?_ _ | with_reducible refine Below.setCell1 ?_ (by first | omega | (simp; done) | (simp; omega)) _ | with_reducible refine Below.step ?_ (by with_reducible assumption)))⟩
    · have g2 : (l.length : Int) ≤ 8 := by omega
      rw [if_neg h2] at hr1
      have HR := hide hr1
      clear hr1 h2
      go_enter Try.func55, Try.ntmps55
      go_wp2_with fail
      generalize hV : World.alloc w _ = w1
      have hb1 : Below w.heap.size w w1 := by subst hV; (repeat (first | with_reducible exact Below.refl _ _ | with_reducible assumption | with_reducible refine Below.drew ?_ | with_reducible refine Below.drewN ?_ _ | with_reducible refine Below.alloc1 ?_ _ | with_reducible refine Below.setCell1 ?_ (by first | omega | (simp; done) | (simp; omega)) _ | with_reducible refine Below.step ?_ (by with_reducible assumption)))
      have k0 : Bk w1 w.heap.size 40 [.int .i64 b, .int .i64 r] := by subst hV; (repeat (first | with_reducible exact Bk.new' _ _ _ _ (by simp; done) | with_reducible assumption | with_reducible refine Bk.alloc ?_ _ | with_reducible refine Bk.drew ?_ | with_reducible refine Bk.drewN ?_ _ | with_reducible refine Bk.step ?_ (by with_reducible assumption) | with_reducible refine Bk.far ?_ (by first | omega | (simp; done) | (simp; omega)) _))
      clear hV
      refine (hB _).mono ?_; rintro e x0 ⟨rfl, hx0⟩
      replace k0 := k0.step hx0
      replace hb1 : Below w.heap.size w x0 := hb1.step hx0
      clear hx0
      have k0_0 := k0.cell 0; have k0_f0 := k0.frozen 0; have k0_1 := k0.cell 1; have k0_f1 := k0.frozen 1; simp only [List.set_cons_zero, List.set_cons_succ, List.getElem?_cons_zero, List.getElem?_cons_succ] at k0_0 k0_1; have lt_k0 := k0.lt
      go_wp2_with fail
      refine (hW _ _ k0 hb1).mono ?_; rintro e x1 ⟨rfl, hx1⟩
      replace hb1 : Below w.heap.size w x1 := hb1.step hx1
      (try clear k0_0 k0_f0 k0_1 k0_f1 lt_k0)
      clear hx1 hW k0
      by_cases ho : l.any (eBad b r) = true
      · have hr : eCheck b r l = 8 := by rw [HR.out, if_pos ho]
        go_wp2
        go_ret
        first | exact ⟨ret_int hr.symm, by (repeat (first | with_reducible exact Below.refl _ _ | with_reducible assumption | with_reducible refine Below.drew ?_ | with_reducible refine Below.drewN ?_ _ | with_reducible refine Below.alloc1 ?_ _ | with_reducible refine Below.setCell1 ?_ (by first | omega | (simp; done) | (simp; omega)) _ | with_reducible refine Below.step ?_ (by with_reducible assumption)))⟩ | exact ⟨rfl, by (repeat (first | with_reducible exact Below.refl _ _ | with_reducible assumption | with_reducible refine Below.drew ?_ | with_reducible refine Below.drewN ?_ _ | with_reducible refine Below.alloc1 ?_ _ | with_reducible refine Below.setCell1 ?_ (by first | omega | (simp; done) | (simp; omega)) _ | with_reducible refine Below.step ?_ (by with_reducible assumption)))⟩
      · have ho' : l.any (eBad b r) = false := eq_false_of_ne_true ho
        have hr2 := HR.out
        rw [if_neg ho] at hr2
        replace HR := hide hr2
        clear hr2 ho
        go_wp2
        go_loopw [6] (fun i wr => ∃ k : Nat, i = .int .i64 ((k : Int) + 1) ∧ k ≤ 8 ∧ Hid (eOrd l = eOrd (l.drop k)) ∧ Below w.heap.size w wr) (fun i _ => l.length - (intOf i).toNat)
        case atStart => exact ⟨0, rfl, Nat.zero_le _, rfl, hb1⟩
        case round =>
          clear hb1
          obtain ⟨k, rfl, hk8, HO, hb⟩ := hrel
          by_cases hlt : k + 1 < l.length
          · obtain ⟨ad, rfl, hadb, c1, c2, c3⟩ := (ha.below hb).en (k := k) (by omega)
            obtain ⟨ad', e', _, d1, d2, d3⟩ := (ha.below hb).en hlt
            cases e'
            clear c2 c3 d2 d3
            have hs := eOrd_step hlt
            rw [← HO.out] at hs
            obtain ⟨m, hm⟩ : ∃ m, m = k + 1 := ⟨_, rfl⟩
            simp only [← hm] at hs d1
            have hml : (m : Int) < (l.length : Int) := by omega
            have hkl : (k : Int) < (l.length : Int) := by omega
            have hmk : (k : Int) + 1 = (m : Int) := by omega
            have hmk2 : (m : Int) - 1 = (k : Int) := by omega
            have hm2 : m < l.length := by omega
            rw [hmk]
            generalize l[k] = x at *
            generalize l[m] = y at *
            clear hm hlt
            by_cases hxy : x.s < y.s
            · have hn : ¬ y.s ≤ x.s := by omega
              rw [decide_eq_true hxy, Bool.true_and] at hs
              have HS := hide hs
              clear hs
              go_wp2
              go_quiet (fail)
              go_wp2
              go_roundw
              case rel => exact ⟨m, rfl, by omega, HS, by (repeat (first | with_reducible exact Below.refl _ _ | with_reducible assumption | with_reducible refine Below.drew ?_ | with_reducible refine Below.drewN ?_ _ | with_reducible refine Below.alloc1 ?_ _ | with_reducible refine Below.setCell1 ?_ (by first | omega | (simp; done) | (simp; omega)) _ | with_reducible refine Below.step ?_ (by with_reducible assumption)))⟩
              case measure => simp [intOf]; omega
            · have hn : y.s ≤ x.s := by omega
              rw [decide_eq_false hxy, Bool.false_and] at hs
              have hr : eCheck b r l = 10 := by rw [HR.out, if_pos hs]
              clear hs
              go_wp2
              go_quiet (fail)
              go_wp2
              go_ret
              exact ⟨ret_int hr.symm, by (repeat (first | with_reducible exact Below.refl _ _ | with_reducible assumption | with_reducible refine Below.drew ?_ | with_reducible refine Below.drewN ?_ _ | with_reducible refine Below.alloc1 ?_ _ | with_reducible refine Below.setCell1 ?_ (by first | omega | (simp; done) | (simp; omega)) _ | with_reducible refine Below.step ?_ (by with_reducible assumption)))⟩
          · have hr : eCheck b r l = 0 := by rw [HR.out, if_neg (by rw [HO.out, eOrd_last (by omega)]; simp)]
            have hn : (l.length : Int) ≤ (k : Int) + 1 := by omega
            go_wp2
            go_ret
            exact ⟨ret_int hr.symm, by (repeat (first | with_reducible exact Below.refl _ _ | with_reducible assumption | with_reducible refine Below.drew ?_ | with_reducible refine Below.drewN ?_ _ | with_reducible refine Below.alloc1 ?_ _ | with_reducible refine Below.setCell1 ?_ (by first | omega | (simp; done) | (simp; omega)) _ | with_reducible refine Below.step ?_ (by with_reducible assumption)))⟩
  · have hne : (bCheck b r != 0) = true := by simpa using h1
    have hr1 : eCheck b r l = bCheck b r := by unfold eCheck; rw [if_pos h1]
    generalize bCheck b r = e0 at *
    go_enter Try.func55, Try.ntmps55
    go_wp2_with fail
    refine (hB _).mono ?_; rintro e x0 ⟨rfl, hx0⟩
    go_wp2
    go_ret
    exact ⟨ret_int hr1.symm, by (repeat (first | with_reducible exact Below.refl _ _ | with_reducible assumption | with_reducible refine Below.drew ?_ | with_reducible refine Below.drewN ?_ _ | with_reducible refine Below.alloc1 ?_ _ | with_reducible refine Below.setCell1 ?_ (by first | omega | (simp; done) | (simp; omega)) _ | with_reducible refine Below.step ?_ (by with_reducible assumption)))⟩
theorem source_Same_any (A B : Option Addr) (c d : Nat) (l m : List En) (w : World) (hl : l.length ≤ 1000) (ha : Rd w w.heap.size A (enR l)) (hb : Rd w w.heap.size B (enR m)) :
    Calls Try.prog 65 #[.slice A l.length c, .slice B m.length d] w fun e w' => e = .returned (.bool (decide (l = m))) ∧ Below w.heap.size w w' := by
  have hE := en_Equal A B c d l m w (by unfold maxLen; omega) ha hb
  generalize decide (l = m) = q at *
  go_enter Try.func65, Try.ntmps65
  go_wp2_with fail
  refine hE.mono ?_; rintro e x0 ⟨rfl, n, rfl⟩
  go_wp2
  go_ret
  exact ⟨rfl, by (repeat (first | with_reducible exact Below.refl _ _ | with_reducible assumption | with_reducible refine Below.drew ?_ | with_reducible refine Below.drewN ?_ _ | with_reducible refine Below.alloc1 ?_ _ | with_reducible refine Below.setCell1 ?_ (by first | omega | (simp; done) | (simp; omega)) _ | with_reducible refine Below.step ?_ (by with_reducible assumption)))⟩
def eSrcs (l : List En) : List Int := l.map En.s
theorem int_info14 : (Try.prog.info? 3).map (fun i => (i.zero, i.size, i.bytes)) = some (some (.int .i64 0), 1, 8) := by kernel_rfl
end Go.Proofs.Ytolpiaehleefbaa
