/- Package table: what a call leaves, told by what a table has; callboylaw07.do. -/
import Derived.Test.YtpnhdbejkdoceaaTb4
import Derived.Deep.CutBlock
namespace Go.Proofs.Ytpnhdbejkdoceaa
open Go.RowKit Go.Sort
set_option linter.unusedSimpArgs false
set_option linter.unusedVariables false

structure TW (l : List TS) (m : Nat) : Prop where
  ti : TI l
  cnt : lv l = m
  cap : m ≤ l.length * 3 / 4
theorem hasK_iff {l : List TS} (h : TI l) (k : ByteArray) : (fnd0 l k).2 = true ↔ hasK l k := by
  rcases find_ways h k with ⟨a, b, c, d⟩ | ⟨a, b, _⟩
  · exact ⟨fun _ => ⟨_, b, c, d⟩, fun _ => a⟩
  · exact ⟨fun e => (by rw [a] at e; cases e), fun e => absurd e b⟩
theorem hasE_K {l : List TS} {k : ByteArray} {v : Int} (h : hasE l k v) : hasK l k := by
  obtain ⟨p, a, b, c, _⟩ := h; exact ⟨p, a, b, c⟩
theorem get_of {l : List TS} (h : TI l) {k : ByteArray} {v : Int} (he : hasE l k v) : (fnd0 l k).2 = true ∧ (gt l (fnd0 l k).1).v = v := by
  obtain ⟨p, a, b, c, d⟩ := he
  have := find_at h a b
  rw [c] at this
  rw [this]
  exact ⟨rfl, d⟩
theorem get_no {l : List TS} (h : TI l) {k : ByteArray} (he : ¬ hasK l k) : (fnd0 l k).2 = false := by
  cases hf : (fnd0 l k).2 with
  | false => rfl
  | true => exact absurd ((hasK_iff h k).1 hf) he
theorem put_tw {l : List TS} {m : Nat} (h : TW l m) (k : ByteArray) (v : Int) : TW (pPut l m k v).1 (pPut l m k v).2.1 ∧ (pPut l m k v).1.length = l.length ∧
    ((64 < k.size ∧ pPut l m k v = (l, m, 5)) ∨ (k.size ≤ 64 ∧ hasK l k ∧ (pPut l m k v).2 = (m, 0) ∧ ∀ k' u, hasE (pPut l m k v).1 k' u ↔ if k' = k then u = v else hasE l k' u) ∨
     (k.size ≤ 64 ∧ ¬ hasK l k ∧ l.length * 3 / 4 ≤ m ∧ pPut l m k v = (l, m, 7)) ∨ (k.size ≤ 64 ∧ ¬ hasK l k ∧ m < l.length * 3 / 4 ∧ (pPut l m k v).2 = (m + 1, 0) ∧ ∀ k' u, hasE (pPut l m k v).1 k' u ↔ if k' = k then u = v else hasE l k' u)) := by
  have hn := h.ti.n2
  by_cases h64 : 64 < k.size
  · have e : pPut l m k v = (l, m, 5) := by unfold pPut; rw [if_pos h64]
    rw [e]
    exact ⟨h, rfl, .inl ⟨h64, rfl⟩⟩
  · rcases find_ways h.ti k with ⟨a, b, c, d⟩ | ⟨a, b, c, d, e1⟩
    · have e : pPut l m k v = (l.set (fnd0 l k).1 ⟨(gt l (fnd0 l k).1).k, v, true⟩, m, 0) := by unfold pPut; rw [if_neg h64, if_pos a, c]
      rw [e]
      obtain ⟨x1, x2, x3⟩ := put_old h.ti b c v
      rw [d] at x1 x2 x3 ⊢
      exact ⟨⟨x1, x2.trans h.cnt, by rw [List.length_set]; exact h.cap⟩, List.length_set, .inr (.inl ⟨by omega, ⟨_, b, c, d⟩, rfl, x3⟩)⟩
    · by_cases hf : l.length * 3 / 4 ≤ m
      · have e : pPut l m k v = (l, m, 7) := by unfold pPut; rw [if_neg h64, if_neg (by rw [a]; simp), if_pos (by unfold full; simpa using hf)]
        rw [e]
        exact ⟨h, rfl, .inr (.inr (.inl ⟨by omega, b, hf, rfl⟩))⟩
      · have e : pPut l m k v = (l.set (fnd0 l k).1 ⟨k, v, true⟩, m + 1, 0) := by unfold pPut; rw [if_neg h64, if_neg (by rw [a]; simp), if_neg (by unfold full; simpa using hf)]
        rw [e]
        have hc := h.cnt
        obtain ⟨x1, x2, x3⟩ := put_new h.ti k v c d b e1 (by omega)
        exact ⟨⟨x1, by rw [x2, hc], by rw [List.length_set]; show m + 1 ≤ _; omega⟩, List.length_set, .inr (.inr (.inr ⟨by omega, b, by omega, rfl, x3⟩))⟩
/-- what a call with a key leaves of the other keys -/
def Oth (key : ByteArray) (l l' : List TS) (m m' : Nat) : Prop := TW l' m' ∧ l'.length = l.length ∧ m' ≤ m + 1 ∧ (∀ k' v, k' ≠ key → (hasE l' k' v ↔ hasE l k' v))
theorem oth_refl {key : ByteArray} {l : List TS} {m : Nat} (h : TW l m) : Oth key l l m m := ⟨h, rfl, by omega, fun _ _ _ => Iff.rfl⟩
theorem put_oth {l : List TS} {m : Nat} (h : TW l m) (k : ByteArray) (v : Int) : Oth k l (pPut l m k v).1 m (pPut l m k v).2.1 := by
  obtain ⟨a, b, c⟩ := put_tw h k v
  refine ⟨a, b, ?_, ?_⟩
  · rcases c with ⟨_, e⟩ | ⟨_, _, e, _⟩ | ⟨_, _, _, e⟩ | ⟨_, _, _, e, _⟩ <;> rw [e] <;> simp
  · intro k' u hk
    rcases c with ⟨_, e⟩ | ⟨_, _, _, e⟩ | ⟨_, _, _, e⟩ | ⟨_, _, _, _, e⟩
    · rw [e]
    · rw [e, if_neg hk]
    · rw [e]
    · rw [e, if_neg hk]

abbrev acV (kd : Int) (key : ByteArray) (N : Int) : Value := .agg #[.int .u8 kd, .string key, .int .i64 N]
set_option maxHeartbeats 8000000 in
theorem do_any (W : World) (gT gS : Nat) (l : List TS) (m : Nat) (kd : Int) (key : ByteArray) (N : Int) (hkd : 0 ≤ kd ∧ kd ≤ 255) (hkey : key.size ≤ 100) (h : Tb W gT gS l m) (tw : TW l m) :
    Calls Try.prog 7 #[.pointer (some ⟨gT, 0, none⟩), acV kd key N] W fun e w' => (∃ x y, e = .returned (.tuple #[.int .i64 x, .int .i64 y])) ∧ ∃ l' m', Tb w' gT gS l' m' ∧ FpW [gT, gS] W w' ∧
      (Oth key l l' m m' ∨ (kd.tmod 6 = 5 ∧ l' = List.replicate l.length tz ∧ m' = 0)) := by
  have hm : m ≤ 1000 := by have := tw.cap; have := h.n; omega
  obtain ⟨kk, hkk⟩ : ∃ kk, kd.tmod 6 = kk := ⟨_, rfl⟩
  have hk6 : 0 ≤ kk ∧ kk ≤ 5 := by rw [Int.tmod_eq_emod_of_nonneg hkd.1] at hkk; omega
  have hb0 : ∀ o, Below W.heap.size W (W.alloc o) := fun o => by (repeat (first | with_reducible exact Below.refl _ _ | with_reducible assumption | with_reducible refine Below.drew ?_ | with_reducible refine Below.drewN ?_ _ | with_reducible refine Below.alloc1 ?_ _ | with_reducible refine Below.setCell1 ?_ (by first | omega | (simp; done) | (simp; omega)) _ | with_reducible refine Below.step ?_ (by with_reducible assumption)))
  rw [hkk]
  by_cases h2 : kk = 2
  · subst h2
    have hD := fun W h => tb_Del W gT gS l m key (by omega) tw.ti tw.cnt h
    generalize hf : (fnd0 l key).2 = f at *
    cases f
    all_goals
      go_enter Try.func7, Try.ntmps7
      go_wp2_with fail
      refine (hD _ (h.step (hb0 _))).mono ?_
      rintro e w1 ⟨rfl, l', m', hT, hF, hw⟩
      have hfe := (FpW.of (fp := [gT, gS]) (hb0 _)).trans hF
      have hO : Oth key l l' m m' := by
        rcases hw with ⟨_, rfl, rfl⟩ | ⟨_, e1, e2, e3, e4, e5⟩
        · exact oth_refl tw
        · exact ⟨⟨e2, by omega, by have := tw.cap; rw [e1]; omega⟩, e1, by omega, fun k' v hk => by rw [e5]; exact ⟨fun x => x.2, fun x => ⟨hk, x⟩⟩⟩
      clear hw hD
      go_wp2
      go_ret2
      exact ⟨⟨_, _, rfl⟩, l', m', hT, hfe, .inl hO⟩
  · by_cases h3 : kk = 3
    · subst h3
      have hA := fun W h => tb_Add W gT gS l m key N (by omega) hm h
      have hO := put_oth tw key (pSum l key N)
      generalize pPut l m key (pSum l key N) = R at *
      generalize (if R.2.2 = 0 then pSum l key N else 0) = vv at *
      go_enter Try.func7, Try.ntmps7
      go_wp2_with fail
      refine (hA _ (h.step (hb0 _))).mono ?_
      rintro e w1 ⟨rfl, hT, hF⟩
      have hfe := (FpW.of (fp := [gT, gS]) (hb0 _)).trans hF
      clear hA
      go_wp2
      go_ret2
      exact ⟨⟨_, _, rfl⟩, _, _, hT, hfe, .inl hO⟩
    · by_cases h4 : kk = 4
      · subst h4
        have hG := fun W h => tb_Get W gT gS l m key (by omega) h
        generalize (if (fnd0 l key).2 then (gt l (fnd0 l key).1).v else 0) = v at *
        generalize (fnd0 l key).2 = f at *
        cases f
        all_goals
          go_enter Try.func7, Try.ntmps7
          go_wp2_with fail
          refine (hG _ (h.step (hb0 _))).mono ?_
          rintro e w1 ⟨rfl, hb1⟩
          have hT := (h.step (hb0 _)).step hb1
          have hfe := (FpW.of (fp := [gT, gS]) (hb0 _)).below hb1
          clear hG
          go_wp2
          go_ret2
          exact ⟨⟨_, _, rfl⟩, l, m, hT, hfe, .inl (oth_refl tw)⟩
      · by_cases h5 : kk = 5
        · subst h5
          by_cases h7 : N = 7
          · subst h7
            have hC := fun W h => tb_Clear W gT gS l m h
            go_enter Try.func7, Try.ntmps7
            go_wp2_with fail
            refine (hC _ (h.step (hb0 _))).mono ?_
            rintro e w1 ⟨⟨v, rfl⟩, hT, hF⟩
            have hfe := (FpW.of (fp := [gT, gS]) (hb0 _)).trans hF
            clear hC
            go_wp2
            go_ret2
            exact ⟨⟨_, _, rfl⟩, _, 0, hT, hfe, .inr ⟨by first | rfl | trivial, rfl, rfl⟩⟩
          · have hN7 : (N == 7) = false := by simpa using h7
            have hT := h.step (hb0 (.cells #[.int .u8 kd, .string key, .int .i64 N] 23))
            have hfe := FpW.of (fp := [gT, gS]) (hb0 (.cells #[.int .u8 kd, .string key, .int .i64 N] 23))
            go_enter Try.func7, Try.ntmps7
            go_wp2
            go_ret2
            exact ⟨⟨_, _, rfl⟩, l, m, hT, hfe, .inl (oth_refl tw)⟩
        · have hP := fun W h => tb_Put W gT gS l m key N (by omega) hm h
          have hO := put_oth tw key N
          generalize pPut l m key N = R at *
          have b2 : (kk == 2) = false := by simpa using h2
          have b3 : (kk == 3) = false := by simpa using h3
          have b4 : (kk == 4) = false := by simpa using h4
          have b5 : (kk == 5) = false := by simpa using h5
          go_enter Try.func7, Try.ntmps7
          go_wp2_with fail
          refine (hP _ (h.step (hb0 _))).mono ?_
          rintro e w1 ⟨rfl, hT, hF⟩
          have hfe := (FpW.of (fp := [gT, gS]) (hb0 _)).trans hF
          clear hP
          go_wp2
          go_ret2
          exact ⟨⟨_, _, rfl⟩, _, _, hT, hfe, .inl hO⟩
end Go.Proofs.Ytpnhdbejkdoceaa
