/- Package source: slices.BinarySearchFunc at Entry, find, of. -/
import Derived.Test.YtolpiaehleefbaaSrc4
namespace Go.Proofs.Ytolpiaehleefbaa
open Go.RowKit Go.Sort
set_option linter.unusedSimpArgs false
set_option linter.unusedVariables false

/-- where a source stands, or would stand -/
def lowB (l : List En) (s : Int) : Nat := (l.takeWhile fun x => decide (x.s < s)).length
def hasB (l : List En) (s : Int) : Bool := match l[lowB l s]? with | some x => x.s == s | none => false
theorem lowB_is {l : List En} {s : Int} {k : Nat} (hk : k ≤ l.length) (h0 : ∀ i (h : i < l.length), i < k → l[i].s < s) (h1 : ∀ (h : k < l.length), s ≤ l[k].s) : lowB l s = k := by
  unfold lowB
  induction l generalizing k with
  | nil => simp at hk; simp [hk]
  | cons a r ih =>
    cases k with
    | zero =>
      have := h1 (by simp)
      simp at this
      rw [List.takeWhile_cons_of_neg (by simp; omega)]; rfl
    | succ k =>
      have := h0 0 (by simp) (by omega)
      simp at this
      rw [List.takeWhile_cons_of_pos (by simpa using this), List.length_cons, ih (k := k) (by simpa using hk) (fun i h hi => h0 (i + 1) (by rw [List.length_cons]; omega) (by omega)) (fun h => h1 (by rw [List.length_cons]; omega))]
theorem lowB_le (l : List En) (s : Int) : lowB l s ≤ l.length := (List.takeWhile_sublist _).length_le
theorem lowB_low {l : List En} {s : Int} {i : Nat} (h : i < l.length) (hi : i < lowB l s) : l[i].s < s := by
  unfold lowB at hi
  induction l generalizing i with
  | nil => simp at h
  | cons a r ih =>
    by_cases ha : a.s < s
    · rw [List.takeWhile_cons_of_pos (by simpa using ha)] at hi
      cases i with
      | zero => simpa using ha
      | succ i => simpa using ih (by simpa using h) (by simpa using hi)
    · rw [List.takeWhile_cons_of_neg (by simpa using ha)] at hi
      simp at hi
theorem lowB_at {l : List En} {s : Int} (h : lowB l s < l.length) : s ≤ l[lowB l s].s := by
  have key : ∀ (l : List En) (h : (l.takeWhile fun x => decide (x.s < s)).length < l.length), s ≤ (l[(l.takeWhile fun x => decide (x.s < s)).length]'h).s := by
    intro l
    induction l with
    | nil => intro h; simp at h
    | cons a r ih =>
      intro h
      by_cases ha : a.s < s
      · have e : (List.takeWhile (fun x : En => decide (x.s < s)) (a :: r)) = a :: r.takeWhile (fun x => decide (x.s < s)) := List.takeWhile_cons_of_pos (by simpa using ha)
        have h2 := h
        rw [e] at h2
        have := ih (by simpa using h2)
        have e3 : (a :: r)[(List.takeWhile (fun x : En => decide (x.s < s)) (a :: r)).length]? = some (r[(r.takeWhile fun x => decide (x.s < s)).length]'(by simpa using h2)) := by rw [e]; simp
        rw [List.getElem?_eq_getElem h] at e3
        rw [Option.some.inj e3]
        exact this
      · have e : (List.takeWhile (fun x : En => decide (x.s < s)) (a :: r)) = [] := List.takeWhile_cons_of_neg (by simpa using ha)
        have e3 : (a :: r)[(List.takeWhile (fun x : En => decide (x.s < s)) (a :: r)).length]? = some a := by rw [e]; rfl
        rw [List.getElem?_eq_getElem h] at e3
        rw [Option.some.inj e3]
        omega
  exact key l h
theorem hasB_at {l : List En} {s : Int} (h : lowB l s < l.length) : hasB l s = (l[lowB l s].s == s) := by unfold hasB; rw [List.getElem?_eq_getElem h]
theorem hasB_end {l : List En} {s : Int} (h : l.length ≤ lowB l s) : hasB l s = false := by unfold hasB; rw [List.getElem?_eq_none h]
theorem eOrd_le {l : List En} (h : eOrd l = true) {i j : Nat} (hij : i ≤ j) (hj : j < l.length) : l[i].s ≤ l[j].s := by
  rcases Nat.lt_or_eq_of_le hij with h1 | rfl
  · exact Int.le_of_lt (eOrd_lt h h1 hj)
  · exact Int.le_refl _
theorem source_find1_any (x : En) (s : Int) (hx : 0 ≤ x.s ∧ x.s ≤ 65535) (hs : 0 ≤ s ∧ s ≤ 65535) (w : World) :
    Calls Try.prog 102 #[enV x, .int .i64 s] w fun e w' => e = .returned (.int .i64 (x.s - s)) ∧ Below w.heap.size w w' := by
  have hw := IntWalk.i64_in (x.s - s) (by omega)
  go_enter Try.func102, Try.ntmps102
  go_wp2
  try go_quiet (fail)
  try go_wp2
  go_ret
  exact ⟨rfl, by (repeat (first | with_reducible exact Below.refl _ _ | with_reducible assumption | with_reducible refine Below.drew ?_ | with_reducible refine Below.drewN ?_ _ | with_reducible refine Below.alloc1 ?_ _ | with_reducible refine Below.setCell1 ?_ (by first | omega | (simp; done) | (simp; omega)) _ | with_reducible refine Below.step ?_ (by with_reducible assumption)))⟩
set_option maxRecDepth 100000 in
set_option maxHeartbeats 4000000 in
theorem en_BinarySearchFunc (g : FuncId) (s : Int) (A : Option Addr) (c : Nat) (l : List En) (w : World) (eg : ∀ args w, (callFunc g args).run Try.prog w = .ok (.enter g args) w) (hl : l.length ≤ 1000) (hs : 0 ≤ s ∧ s ≤ 65535)
    (hm : ∀ x ∈ l, 0 ≤ x.s ∧ x.s ≤ 65535) (ho : eOrd l = true) (hg : ∀ x W, x ∈ l → Calls Try.prog g #[enV x, .int .i64 s] W fun e w' => e = .returned (.int .i64 (x.s - s)) ∧ Below W.heap.size W w') (ha : Rd w w.heap.size A (enR l)) :
    Calls Try.prog 101 #[.slice A l.length c, .int .i64 s, .func (.func g) #[] #[]] w fun e w' => e = .returned (.tuple #[.int .i64 (lowB l s), .bool (hasB l s)]) ∧ Below w.heap.size w w' := by
  have HO := hide ho
  have HM := hide hm
  clear ho hm
  go_enter Try.func101, Try.ntmps101
  go_wp2
  go_loopw [9, 10] (fun iv jv wr => ∃ i j : Nat, i ≤ j ∧ j ≤ l.length ∧ iv = .int .i64 i ∧ jv = .int .i64 j ∧ Hid (∀ t (h : t < l.length), t < i → l[t].s < s) ∧ Hid (∀ t (h : t < l.length), j ≤ t → s ≤ l[t].s) ∧ Below w.heap.size w wr) (fun iv jv _ => (intOf jv).toNat - (intOf iv).toNat)
  case atStart => exact ⟨0, l.length, Nat.zero_le _, Nat.le_refl _, rfl, rfl, fun t h ht => absurd ht (Nat.not_lt_zero _), fun t h ht => absurd h (by omega), by (repeat (first | with_reducible exact Below.refl _ _ | with_reducible assumption | with_reducible refine Below.drew ?_ | with_reducible refine Below.drewN ?_ _ | with_reducible refine Below.alloc1 ?_ _ | with_reducible refine Below.setCell1 ?_ (by first | omega | (simp; done) | (simp; omega)) _ | with_reducible refine Below.step ?_ (by with_reducible assumption)))⟩
  case round =>
    obtain ⟨i, j, hij, hjl, rfl, rfl, HI, HJ, hb⟩ := hrel
    by_cases hlt : i < j
    · obtain ⟨h, hh⟩ : ∃ h, h = (i + j) / 2 := ⟨_, rfl⟩
      have hhl : h < l.length := by omega
      obtain ⟨ad, rfl, hadb, c1, c2, c3⟩ := (ha.below hb).en hhl
      have hgv := hg l[h] wr (List.getElem_mem hhl)
      have hdiv : ((i : Int) + (j : Int)) / 2 = (h : Int) := by omega
      have hih : i ≤ h ∧ h < j := by omega
      have hhl2 : (h : Int) < (l.length : Int) := by omega
      have HLT := hide (show l[h].s < s → ∀ t (ht : t < l.length), t < h + 1 → l[t].s < s from fun e t ht hl => Int.lt_of_le_of_lt (eOrd_le HO.out (by omega) hhl) e)
      have HGE := hide (show s ≤ l[h].s → ∀ t (ht : t < l.length), h ≤ t → s ≤ l[t].s from fun e t ht hl => Int.le_trans e (eOrd_le HO.out hl ht))
      clear hh
      generalize l[h] = x at *
      go_wp2_with fail
      refine hgv.mono ?_; rintro e w5 ⟨rfl, hy5⟩
      replace hb : Below w.heap.size w w5 := hb.step hy5
      clear hgv c1 c2 c3 hy5
      by_cases hxs : x.s < s
      · have hd : x.s - s < 0 := by omega
        have H2 := hide (HLT.out hxs)
        clear HLT HGE
        go_wp2
        go_roundw
        case rel => exact ⟨h + 1, j, by omega, hjl, by go_num, rfl, H2, HJ, hb⟩
        case measure => simp [intOf]; omega
      · have hd : ¬ x.s - s < 0 := by omega
        have H2 := hide (HGE.out (by omega))
        clear HLT HGE
        go_wp2
        go_roundw
        case rel => exact ⟨i, h, by omega, by omega, rfl, by go_num, HI, H2, hb⟩
        case measure => simp [intOf]; omega
    · have hje : i = j := by omega
      subst hje
      have hLB : lowB l s = i := lowB_is hjl HI.out (fun h => HJ.out i h (Nat.le_refl _))
      by_cases hil : i < l.length
      · have hHB := hasB_at (l := l) (s := s) (by omega)
        simp only [hLB] at hHB
        obtain ⟨ad, rfl, hadb, c1, c2, c3⟩ := (ha.below hb).en hil
        have hgv := hg l[i] wr (List.getElem_mem hil)
        have hil2 : (i : Int) < (l.length : Int) := by omega
        have hHB2 : hasB l s = (l[i].s - s == 0) := by
          rw [hHB]
          by_cases e : l[i].s = s
          · rw [e]; simp
          · have : l[i].s - s ≠ 0 := by omega
            rw [beq_eq_false_iff_ne.2 e, beq_eq_false_iff_ne.2 this]
        have HH := hide hHB2
        have HL := hide hLB
        clear hHB hHB2 hLB
        generalize l[i] = x at *
        go_wp2_with fail
        refine hgv.mono ?_; rintro e w5 ⟨rfl, hy5⟩
        go_wp2
        exact bodyPost_ret (v := .tuple #[.int .i64 i, .bool (x.s - s == 0)]) (by simp only [results, Try.results101]; go_simp) rfl ⟨by rw [HH.out, HL.out], hb.step hy5⟩
      · have hHB := hasB_end (l := l) (s := s) (by omega)
        have HH := hide hHB
        have HL := hide hLB
        clear hHB hLB
        go_wp2
        exact bodyPost_ret (v := .tuple #[.int .i64 i, .bool false]) (by simp only [results, Try.results101]; go_simp) rfl ⟨by rw [HH.out, HL.out], hb⟩
end Go.Proofs.Ytolpiaehleefbaa
