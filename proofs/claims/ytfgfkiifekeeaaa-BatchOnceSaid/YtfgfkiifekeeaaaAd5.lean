/- Package addr: Parse. -/
import Derived.Test.YtfgfkiifekeeaaaAd4
namespace Go.Proofs.Ytfgfkiifekeeaaa
open Go.RowKit Go.Shelf
set_option linter.unusedSimpArgs false
set_option linter.unusedVariables false

theorem srow_grown {w : World} (g : Nat) (cur : Array Value) : w.grownBy (w.setRow g cur) (some g) :=
  ⟨rfl, rfl, rfl, by simp, fun k _ hk => setRow_other w g k _ (fun e => hk (by simp [e]))⟩
theorem srow_below {B : Nat} {w w' : World} (h : Below B w w') {g : Nat} (hg : B ≤ g) (cur : Array Value) : Below B w (w'.setRow g cur) :=
  ⟨h.os, h.tape, h.output, Nat.le_trans h.size (srow_grown (w := w') g cur).size, fun k hk => (setRow_other w' g k _ (by omega)).trans (h.block k hk)⟩
theorem Bk.srow {w : World} {g : Nat} {t : TypeId} {cs : List Value} (h : Bk w g t cs) (cs' : List Value) : Bk (w.setRow g cs'.toArray) g t cs' := setRow_heap w g cs.toArray _ _ _ h
theorem Bk.srowFar {w : World} {g k : Nat} {t : TypeId} {cs : List Value} (h : Bk w k t cs) (hne : k ≠ g) (cur : Array Value) : Bk (w.setRow g cur) k t cs := (setRow_other w g k _ hne).trans h
theorem results_row_val {P : Program} {fn : Func} {p u : Tmp} {ty : TypeId} (h : fn.results = #[.cell p ty, .tmp u]) (tmps : Array Value) (w : World) (g : Nat) (t : TypeId) (cs : List Value) (d : TypeDesc) (v : Value)
    (hp : tmps.getD p undef = .pointer (some ⟨g, 0, none⟩)) (hq : tmps.getD u undef = v) (hg : Bk w g t cs)
    (hu : P.underlying ty = some d) (hd : (match d with | .struct _ | .array _ _ => true | _ => false) = true) (hi : (P.info? ty).map (·.size) = some cs.toArray.size) :
    (results fn tmps).run P w = .ok (.tuple #[.agg cs.toArray, v]) w := hq ▸ results_row_tmp h tmps w g t cs d hp hg hu hd hi
set_option maxRecDepth 100000 in
set_option maxHeartbeats 4000000 in
theorem addr_Parse_any (s : ByteArray) (hs : s.size ≤ 1000000) (w : World) (hm : MW w) : Calls Try.prog 54 #[.string s] w fun e w' =>
    e = .returned (.tuple #[aV (strOf (aParse s.data.toList).1.1) (strOf (aParse s.data.toList).1.2.1) (strOf (aParse s.data.toList).1.2.2), .int .i64 (aParse s.data.toList).2]) ∧ Below w.heap.size w w' := by
  obtain ⟨R, hR⟩ : ∃ R, R = aParse s.data.toList := ⟨_, rfl⟩
  rw [← hR]
  unfold aParse at hR
  have c1 : ∀ W m, W.cell? ⟨0, 0, none⟩ = some (.int .i64 m) → Calls Try.prog 47 #[.string s, .string ⟨#[47]⟩] W fun e w' => e = .returned (.tuple #[.string (strOf (Lib.cut s.data.toList [47]).1), .string (strOf (Lib.cut s.data.toList [47]).2.1), .bool (Lib.cut s.data.toList [47]).2.2]) ∧ ∃ n, w' = W.drewN n :=
    fun W m h => Try.strings_Cut s ⟨#[47]⟩ m W (by omega) h
  have l1 := cut_len s.data.toList [47]
  rw [list_size] at l1
  generalize Lib.cut s.data.toList [47] = c at *
  obtain ⟨f, r, sl⟩ := c
  dsimp only at c1 l1 hR
  have lw : ∀ W, Calls Try.prog 61 #[.string (strOf f)] W fun e w' => e = .returned (.string (strOf (f.map uLow))) ∧ Below W.heap.size W w' := fun W => utf_Low_any (strOf f) (by rw [strOf_size]; unfold maxLen; omega) W
  have c2 : ∀ W m, W.cell? ⟨0, 0, none⟩ = some (.int .i64 m) → Calls Try.prog 47 #[.string (strOf (f.map uLow)), .string ⟨#[64]⟩] W fun e w' => e = .returned (.tuple #[.string (strOf (Lib.cut (f.map uLow) [64]).1), .string (strOf (Lib.cut (f.map uLow) [64]).2.1), .bool (Lib.cut (f.map uLow) [64]).2.2]) ∧ ∃ n, w' = W.drewN n :=
    fun W m h => Try.strings_Cut (strOf (f.map uLow)) ⟨#[64]⟩ m W (by rw [strOf_size, List.length_map]; omega) h
  have l2 := cut_len (f.map uLow) [64]
  rw [List.length_map] at l2
  generalize Lib.cut (f.map uLow) [64] = d at *
  obtain ⟨o, p, at_⟩ := d
  dsimp only at c2 l2 hR
  have k0 := fun W hW => addr_Check_any (strOf o) (strOf p) (strOf r) (by rw [strOf_size]; omega) (by rw [strOf_size]; omega) (by rw [strOf_size]; omega) W hW
  rw [strOf_list, strOf_list, strOf_list] at k0
  have hrE := isE2 (strOf r)
  rw [strOf_list] at hrE
  generalize strOf (f.map uLow) = fl at *
  unfold aV at *
  go_enter Try.func54, Try.ntmps54
  go_wp2_with fail
  generalize hV : World.alloc w _ = w1
  have hb : Below w.heap.size w w1 := by subst hV; (repeat (first | with_reducible exact Below.refl _ _ | with_reducible assumption | with_reducible refine Below.drew ?_ | with_reducible refine Below.drewN ?_ _ | with_reducible refine Below.alloc1 ?_ _ | with_reducible refine Below.setCell1 ?_ (by first | omega | (simp; done) | (simp; omega)) _ | with_reducible refine Below.step ?_ (by with_reducible assumption)))
  have q0 : Bk w1 w.heap.size 94 (aC ByteArray.empty ByteArray.empty ByteArray.empty) := by subst hV; exact Bk.new w _ (aC ByteArray.empty ByteArray.empty ByteArray.empty)
  clear hV
  have hm1 := hm.step hb
  obtain ⟨m1, hm1'⟩ := hm1
  refine (c1 _ m1 hm1').mono ?_; rintro e w2 ⟨rfl, hd2⟩
  have hb2 : Below w1.heap.size w1 w2 := by obtain ⟨n, rfl⟩ := hd2; exact (Below.refl _ _).drewN n
  replace hb := hb.step hb2
  replace q0 := q0.step hb2
  clear hb2 hd2 hm1' m1
  go_wp2_with fail
  refine (lw _).mono ?_; rintro e w3 ⟨rfl, hb2⟩
  replace hb := hb.step hb2
  replace q0 := q0.step hb2
  clear hb2
  obtain ⟨m3, hm3⟩ := hm.step hb
  go_wp2_with fail
  refine (c2 _ m3 hm3).mono ?_; rintro e w4 ⟨rfl, hd2⟩
  have hb2 : Below w3.heap.size w3 w4 := by obtain ⟨n, rfl⟩ := hd2; exact (Below.refl _ _).drewN n
  replace hb := hb.step hb2
  replace q0 := q0.step hb2
  clear hb2 hd2 hm3 m3
  clear c1 c2 lw
  cases at_ with
  | false =>
    replace hR := hR.trans (if_pos (.inl rfl))
    go_wp2_with (first | (refine wpList_store_row rfl 94 _ _ rfl _ (aC ByteArray.empty ByteArray.empty ByteArray.empty).toArray rfl rfl _ _ q0 (by kernel_rfl) (by kernel_rfl) (by kernel_rfl) ?_))
    have r0 := q0.srow (aC ByteArray.empty ByteArray.empty ByteArray.empty)
    have hbr := srow_below hb (Nat.le_refl w.heap.size) (aC ByteArray.empty ByteArray.empty ByteArray.empty).toArray
    exact bodyPost_ret (v := .tuple #[.agg (aC ByteArray.empty ByteArray.empty ByteArray.empty).toArray, .int .i64 4]) (results_row_val rfl _ _ _ _ _ _ _ rfl rfl r0 Try.underlying94 rfl (by kernel_rfl)) rfl ⟨by rw [hR]; rfl, hbr⟩
  | true =>
    have key : (R = (([], [], []), 4) ∧ sl = true ∧ decide (r = []) = true) ∨ (R = (if aCheck o p r ≠ 0 then (([], [], []), aCheck o p r) else ((o, p, r), 0)) ∧ (sl = false ∨ decide (r = []) = false)) := by
      by_cases hc : sl = true ∧ r = []
      · exact .inl ⟨hR.trans (if_pos (.inr hc)), hc.1, decide_eq_true hc.2⟩
      · refine .inr ⟨hR.trans (if_neg ?_), ?_⟩
        · rintro (h | h)
          · cases h
          · exact hc h
        · cases sl with
          | false => exact .inl rfl
          | true => exact .inr (decide_eq_false (fun h => hc ⟨rfl, h⟩))
    clear hR
    rcases key with ⟨hR, h1, h2⟩ | ⟨hR, h1⟩
    · rw [h2] at hrE
      subst h1
      clear h2
      go_wp2_with (first | (refine wpList_store_row rfl 94 _ _ rfl _ (aC ByteArray.empty ByteArray.empty ByteArray.empty).toArray rfl rfl _ _ q0 (by kernel_rfl) (by kernel_rfl) (by kernel_rfl) ?_))
      have r0 := q0.srow (aC ByteArray.empty ByteArray.empty ByteArray.empty)
      have hbr := srow_below hb (Nat.le_refl w.heap.size) (aC ByteArray.empty ByteArray.empty ByteArray.empty).toArray
      exact bodyPost_ret (v := .tuple #[.agg (aC ByteArray.empty ByteArray.empty ByteArray.empty).toArray, .int .i64 4]) (results_row_val rfl _ _ _ _ _ _ _ rfl rfl r0 Try.underlying94 rfl (by kernel_rfl)) rfl ⟨by rw [hR]; rfl, hbr⟩
    · have fin : ∀ Z : Prop, (sl = false → Z) → (sl = true → (strOf r).toList.isEmpty = false → Z) → Z := by
        intro Z a b
        cases sl with
        | false => exact a rfl
        | true =>
          rcases h1 with h1 | h1
          · cases h1
          · exact b rfl (hrE.trans h1)
      clear h1 hrE
      refine fin _ ?_ ?_
      · intro h1
        subst h1
        generalize hc : aCheck o p r = c at *
        clear hc
        go_wp2_with fail
        generalize hV : World.alloc w4 _ = w5
        have hb5 : Below w4.heap.size w4 w5 := by subst hV; (repeat (first | with_reducible exact Below.refl _ _ | with_reducible assumption | with_reducible refine Below.drew ?_ | with_reducible refine Below.drewN ?_ _ | with_reducible refine Below.alloc1 ?_ _ | with_reducible refine Below.setCell1 ?_ (by first | omega | (simp; done) | (simp; omega)) _ | with_reducible refine Below.step ?_ (by with_reducible assumption)))
        have q1 : Bk w5 w4.heap.size 94 (aC (strOf o) (strOf p) (strOf r)) := by subst hV; exact Bk.new w4 _ (aC (strOf o) (strOf p) (strOf r))
        clear hV
        replace hb := hb.step hb5
        replace q0 := q0.step hb5
        refine (k0 _ (hm.step hb)).mono ?_; rintro e w6 ⟨rfl, hb6⟩
        replace hb := hb.step hb6
        replace q0 := q0.step hb6
        replace q1 := q1.step hb6
        clear hb5 hb6 k0
        by_cases h0 : c = 0
        · subst h0
          replace hR := hR.trans (if_neg (by simp))
          go_wp2_with (first | (refine wpList_load_row rfl 94 _ rfl _ rfl _ _ (0, 0) _ q1 Try.underlying94 rfl (by kernel_rfl) ?_) | (refine wpList_store_row rfl 94 _ _ rfl _ (aC (strOf o) (strOf p) (strOf r)).toArray rfl rfl _ _ q0 (by kernel_rfl) (by kernel_rfl) (by kernel_rfl) ?_))
          have r0 := q0.srow (aC (strOf o) (strOf p) (strOf r))
          have hbr := srow_below hb (Nat.le_refl w.heap.size) (aC (strOf o) (strOf p) (strOf r)).toArray
          exact bodyPost_ret (v := .tuple #[.agg (aC (strOf o) (strOf p) (strOf r)).toArray, .int .i64 0]) (results_row_val rfl _ _ _ _ _ _ _ rfl rfl r0 Try.underlying94 rfl (by kernel_rfl)) rfl ⟨by rw [hR]; rfl, hbr⟩
        · have h0B : (c != 0) = true := by rw [bne_iff_ne]; exact h0
          replace hR := hR.trans (if_pos h0)
          go_wp2_with (first | (refine wpList_store_row rfl 94 _ _ rfl _ (aC ByteArray.empty ByteArray.empty ByteArray.empty).toArray rfl rfl _ _ q0 (by kernel_rfl) (by kernel_rfl) (by kernel_rfl) ?_))
          have r0 := q0.srow (aC ByteArray.empty ByteArray.empty ByteArray.empty)
          have hbr := srow_below hb (Nat.le_refl w.heap.size) (aC ByteArray.empty ByteArray.empty ByteArray.empty).toArray
          exact bodyPost_ret (v := .tuple #[.agg (aC ByteArray.empty ByteArray.empty ByteArray.empty).toArray, .int .i64 c]) (results_row_val rfl _ _ _ _ _ _ _ rfl rfl r0 Try.underlying94 rfl (by kernel_rfl)) rfl ⟨by rw [hR]; rfl, hbr⟩
      · intro h1 hrE
        subst h1
        generalize hc : aCheck o p r = c at *
        clear hc
        go_wp2_with fail
        generalize hV : World.alloc w4 _ = w5
        have hb5 : Below w4.heap.size w4 w5 := by subst hV; (repeat (first | with_reducible exact Below.refl _ _ | with_reducible assumption | with_reducible refine Below.drew ?_ | with_reducible refine Below.drewN ?_ _ | with_reducible refine Below.alloc1 ?_ _ | with_reducible refine Below.setCell1 ?_ (by first | omega | (simp; done) | (simp; omega)) _ | with_reducible refine Below.step ?_ (by with_reducible assumption)))
        have q1 : Bk w5 w4.heap.size 94 (aC (strOf o) (strOf p) (strOf r)) := by subst hV; exact Bk.new w4 _ (aC (strOf o) (strOf p) (strOf r))
        clear hV
        replace hb := hb.step hb5
        replace q0 := q0.step hb5
        refine (k0 _ (hm.step hb)).mono ?_; rintro e w6 ⟨rfl, hb6⟩
        replace hb := hb.step hb6
        replace q0 := q0.step hb6
        replace q1 := q1.step hb6
        clear hb5 hb6 k0
        by_cases h0 : c = 0
        · subst h0
          replace hR := hR.trans (if_neg (by simp))
          go_wp2_with (first | (refine wpList_load_row rfl 94 _ rfl _ rfl _ _ (0, 0) _ q1 Try.underlying94 rfl (by kernel_rfl) ?_) | (refine wpList_store_row rfl 94 _ _ rfl _ (aC (strOf o) (strOf p) (strOf r)).toArray rfl rfl _ _ q0 (by kernel_rfl) (by kernel_rfl) (by kernel_rfl) ?_))
          have r0 := q0.srow (aC (strOf o) (strOf p) (strOf r))
          have hbr := srow_below hb (Nat.le_refl w.heap.size) (aC (strOf o) (strOf p) (strOf r)).toArray
          exact bodyPost_ret (v := .tuple #[.agg (aC (strOf o) (strOf p) (strOf r)).toArray, .int .i64 0]) (results_row_val rfl _ _ _ _ _ _ _ rfl rfl r0 Try.underlying94 rfl (by kernel_rfl)) rfl ⟨by rw [hR]; rfl, hbr⟩
        · have h0B : (c != 0) = true := by rw [bne_iff_ne]; exact h0
          replace hR := hR.trans (if_pos h0)
          go_wp2_with (first | (refine wpList_store_row rfl 94 _ _ rfl _ (aC ByteArray.empty ByteArray.empty ByteArray.empty).toArray rfl rfl _ _ q0 (by kernel_rfl) (by kernel_rfl) (by kernel_rfl) ?_))
          have r0 := q0.srow (aC ByteArray.empty ByteArray.empty ByteArray.empty)
          have hbr := srow_below hb (Nat.le_refl w.heap.size) (aC ByteArray.empty ByteArray.empty ByteArray.empty).toArray
          exact bodyPost_ret (v := .tuple #[.agg (aC ByteArray.empty ByteArray.empty ByteArray.empty).toArray, .int .i64 c]) (results_row_val rfl _ _ _ _ _ _ _ rfl rfl r0 Try.underlying94 rfl (by kernel_rfl)) rfl ⟨by rw [hR]; rfl, hbr⟩
end Go.Proofs.Ytfgfkiifekeeaaa
