/- Package chain: put (in place, in three rows of one's own). -/
import Derived.Test.YthicpjfdljgfpaaCho
namespace Go.Proofs.Ythicpjfdljgfpaa
open Go.RowKit Go.Sort
set_option linter.unusedSimpArgs false
set_option linter.unusedVariables false

theorem nds_get' (l : List Nd) (pad : List Value) (k : Nat) (h : k < l.length) : (nds l ++ pad)[k * 3]? = some (.int .i64 l[k].l) ∧ (nds l ++ pad)[k * 3 + 1]? = some (.int .i64 l[k].n) ∧ (nds l ++ pad)[k * 3 + 2]? = some (.int .i64 l[k].p) := by
  have hl := nds_length l
  obtain ⟨a, b, c⟩ := nds_get l k h
  rw [List.getElem?_append_left (by omega), List.getElem?_append_left (by omega), List.getElem?_append_left (by omega)]
  exact ⟨a, b, c⟩
theorem nds_set3 (l : List Nd) (pad : List Value) (q : Nat) (h : q < l.length) (x : Nd) : (((nds l ++ pad).set (q * 3) (.int .i64 x.l)).set (q * 3 + 1) (.int .i64 x.n)).set (q * 3 + 2) (.int .i64 x.p) = nds (l.set q x) ++ pad := by
  induction l generalizing q with
  | nil => simp at h
  | cons a l ih =>
    cases q with
    | zero => simp [nds]
    | succ q =>
      have := ih q (by simpa using h)
      rw [show (q + 1) * 3 = q * 3 + 3 by omega]
      simp only [nds, List.flatMap_cons, List.cons_append, List.nil_append, List.set_cons_succ, show q * 3 + 3 + 1 = (q * 3 + 1) + 3 by omega, show q * 3 + 3 + 2 = (q * 3 + 2) + 3 by omega] at this ⊢
      rw [this]
theorem nds_setN (l : List Nd) (pad : List Value) (q : Nat) (h : q < l.length) (v : Int) : (nds l ++ pad).set (q * 3 + 1) (.int .i64 v) = nds (l.set q ⟨l[q].l, v, l[q].p⟩) ++ pad := by
  induction l generalizing q with
  | nil => simp at h
  | cons a l ih =>
    cases q with
    | zero => simp [nds]
    | succ q =>
      have := ih q (by simpa using h)
      rw [show (q + 1) * 3 = q * 3 + 3 by omega]
      simp only [nds, List.flatMap_cons, List.cons_append, List.nil_append, List.set_cons_succ, show q * 3 + 3 + 1 = (q * 3 + 1) + 3 by omega, List.getElem_cons_succ] at this ⊢
      rw [this]
theorem nds_setP (l : List Nd) (pad : List Value) (q : Nat) (h : q < l.length) (v : Int) : (nds l ++ pad).set (q * 3 + 2) (.int .i64 v) = nds (l.set q ⟨l[q].l, l[q].n, v⟩) ++ pad := by
  induction l generalizing q with
  | nil => simp at h
  | cons a l ih =>
    cases q with
    | zero => simp [nds]
    | succ q =>
      have := ih q (by simpa using h)
      rw [show (q + 1) * 3 = q * 3 + 3 by omega]
      simp only [nds, List.flatMap_cons, List.cons_append, List.nil_append, List.set_cons_succ, show q * 3 + 3 + 2 = (q * 3 + 2) + 3 by omega, List.getElem_cons_succ] at this ⊢
      rw [this]
theorem ints_setp (l : List Int) (pad : List Value) (q : Nat) (h : q < l.length) (v : Int) : (ints l ++ pad).set q (.int .i64 v) = ints (l.set q v) ++ pad := by
  rw [List.set_append_left _ _ (by simpa using h)]
  simp [List.map_set]
theorem modify_set {α : Type} (l : List α) (k : Nat) (f : α → α) (h : k < l.length) : l.modify k f = l.set k (f l[k]) := by
  apply List.ext_getElem?
  intro i
  rw [mod_get, List.getElem?_set]
  by_cases e : k = i
  · subst e; simp [h]
  · simp [e]
theorem Bk.nd {w : World} {g : Nat} {t : TypeId} {l : List Nd} {pad : List Value} (h : Bk w g t (nds l ++ pad)) {k : Nat} (hk : k < l.length) :
    w.cell? ⟨g, k * 3, none⟩ = some (.int .i64 l[k].l) ∧ w.cell? ⟨g, k * 3 + 1, none⟩ = some (.int .i64 l[k].n) ∧ w.cell? ⟨g, k * 3 + 2, none⟩ = some (.int .i64 l[k].p) := by
  obtain ⟨a, b, c⟩ := nds_get' l pad k hk
  exact ⟨(h.cell _).trans a, (h.cell _).trans b, (h.cell _).trans c⟩
theorem Bk.intAt {w : World} {g : Nat} {t : TypeId} {l : List Int} {pad : List Value} (h : Bk w g t (ints l ++ pad)) {k : Nat} (hk : k < l.length) : w.cell? ⟨g, k, none⟩ = some (.int .i64 l[k]) := by
  rw [h.cell, List.getElem?_append_left (by simpa using hk)]; simp [hk]
/-- all but three blocks stay -/
structure Gr3 (p q r : Nat) (w w' : World) : Prop where
  os : w'.os = w.os
  tape : w'.tape = w.tape
  output : w'.output = w.output
  size : w.heap.size ≤ w'.heap.size
  block : ∀ k, k < w.heap.size → k ≠ p → k ≠ q → k ≠ r → w'.heap[k]? = w.heap[k]?
section
variable {p q r : Nat} {w w' w'' : World}
theorem Gr3.of {B : Nat} (h : Below B w w') (hB : w.heap.size ≤ B) : Gr3 p q r w w' := ⟨h.os, h.tape, h.output, h.size, fun k hk _ _ _ => h.block k (by omega)⟩
theorem Gr3.step (h : Gr3 p q r w w') (k : Below w'.heap.size w' w'') : Gr3 p q r w w'' := ⟨k.os.trans h.os, k.tape.trans h.tape, k.output.trans h.output, Nat.le_trans h.size k.size, fun j hj a b c => (k.block j (Nat.lt_of_lt_of_le hj h.size)).trans (h.block j hj a b c)⟩
theorem Gr3.trans (h : Gr3 p q r w w') (k : Gr3 p q r w' w'') : Gr3 p q r w w'' := ⟨k.os.trans h.os, k.tape.trans h.tape, k.output.trans h.output, Nat.le_trans h.size k.size, fun j hj a b c => (k.block j (Nat.lt_of_lt_of_le hj h.size) a b c).trans (h.block j hj a b c)⟩
theorem Gr3.set1 (h : Gr3 p q r w w') {a : Addr} (ha : a.block = p ∨ a.block = q ∨ a.block = r) (u : Value) : Gr3 p q r w (w'.setCell a u) :=
  ⟨h.os, h.tape, h.output, Nat.le_trans h.size (by simp [World.setCell]), fun k hk e1 e2 e3 => (Below.heap_setCell w' a u k (by rcases ha with e | e | e <;> omega)).trans (h.block k hk e1 e2 e3)⟩
theorem Gr3.below {B : Nat} (h : Gr3 p q r w w') (h1 : B ≤ p) (h2 : B ≤ q) (h3 : B ≤ r) (hB : B ≤ w.heap.size) : Below B w w' := ⟨h.os, h.tape, h.output, h.size, fun k hk => h.block k (by omega) (by omega) (by omega) (by omega)⟩
theorem Bk.gr3 {k : Nat} {t : TypeId} {cs : List Value} (h : Bk w k t cs) (g : Gr3 p q r w w') (h1 : k ≠ p) (h2 : k ≠ q) (h3 : k ≠ r) : Bk w' k t cs := (g.block k h.lt h1 h2 h3).trans h
end
/-- a state in three rows of one's own -/
structure Own3 (w : World) (base gA gB gC : Nat) (pA pB pC : List Value) (st : Ch) : Prop where
  A : Bk w gA 63 (nds st.ns ++ pA)
  B : Bk w gB 3 (ints st.hs ++ pB)
  C : Bk w gC 3 (ints st.ts ++ pC)
  bA : base ≤ gA
  bB : base ≤ gB
  bC : base ≤ gC
  ne : gB ≠ gC
theorem Own3.gr {w w' : World} {base gA gB gC : Nat} {pA pB pC : List Value} {st : Ch} (h : Own3 w base gA gB gC pA pB pC st) (hb : Below w.heap.size w w') : Own3 w' base gA gB gC pA pB pC st :=
  ⟨h.A.step hb, h.B.step hb, h.C.step hb, h.bA, h.bB, h.bC, h.ne⟩
theorem bk_ne {w : World} {g g' : Nat} {t t' : TypeId} {cs cs' : List Value} (h : Bk w g t cs) (h' : Bk w g' t' cs') (hne : t ≠ t') : g ≠ g' := by
  rintro rfl
  unfold Bk at h h'
  rw [h] at h'
  injection h' with h'
  injection h' with h1 h2 h3
  exact hne h2
theorem Own3.neAB {w : World} {base gA gB gC : Nat} {pA pB pC : List Value} {st : Ch} (h : Own3 w base gA gB gC pA pB pC st) : gA ≠ gB := bk_ne h.A h.B (by decide)
theorem Own3.neAC {w : World} {base gA gB gC : Nat} {pA pB pC : List Value} {st : Ch} (h : Own3 w base gA gB gC pA pB pC st) : gA ≠ gC := bk_ne h.A h.C (by decide)
theorem Own3.out {w : World} {base gA gB gC : Nat} {pA pB pC : List Value} {st : Ch} (h : Own3 w base gA gB gC pA pB pC st) {k : Nat} {t : TypeId} {cs : List Value} (hk : Bk w k t cs) (h1 : t ≠ 63) (h2 : t ≠ 3) : k ≠ gA ∧ k ≠ gB ∧ k ≠ gC := ⟨bk_ne hk h.A h1, bk_ne hk h.B h2, bk_ne hk h.C h2⟩
theorem Own3.setA3 {w : World} {base gA gB gC : Nat} {pA pB pC : List Value} {st : Ch} (h : Own3 w base gA gB gC pA pB pC st) {q : Nat} (hq : q < st.ns.length) (x : Nd) : Own3 (((w.setCell ⟨gA, q * 3, none⟩ (.int .i64 x.l)).setCell ⟨gA, q * 3 + 1, none⟩ (.int .i64 x.n)).setCell ⟨gA, q * 3 + 2, none⟩ (.int .i64 x.p)) base gA gB gC pA pB pC ⟨st.ns.set q x, st.hs, st.ts⟩ :=
  ⟨by rw [← nds_set3 _ _ _ hq]; exact ((h.A.set_ _ _).set_ _ _).set_ _ _, ((h.B.far h.neAB.symm _).far h.neAB.symm _).far h.neAB.symm _, ((h.C.far h.neAC.symm _).far h.neAC.symm _).far h.neAC.symm _, h.bA, h.bB, h.bC, h.ne⟩
theorem Own3.setN {w : World} {base gA gB gC : Nat} {pA pB pC : List Value} {st : Ch} (h : Own3 w base gA gB gC pA pB pC st) {q : Nat} (hq : q < st.ns.length) (v : Int) : Own3 (w.setCell ⟨gA, q * 3 + 1, none⟩ (.int .i64 v)) base gA gB gC pA pB pC ⟨upd3 st.ns q fun x => { x with n := v }, st.hs, st.ts⟩ :=
  ⟨by
    have e : upd3 st.ns (q : Int) (fun x => { x with n := v }) = st.ns.set q ⟨st.ns[q].l, v, st.ns[q].p⟩ := by
      unfold upd3; rw [if_pos (by omega), Int.toNat_natCast, modify_set _ _ _ hq]
    show Bk _ _ _ (nds (upd3 st.ns (q : Int) _) ++ pA)
    rw [e, ← nds_setN _ _ _ hq]; exact h.A.set_ _ _, h.B.far h.neAB.symm _, h.C.far h.neAC.symm _, h.bA, h.bB, h.bC, h.ne⟩
theorem Own3.setP {w : World} {base gA gB gC : Nat} {pA pB pC : List Value} {st : Ch} (h : Own3 w base gA gB gC pA pB pC st) {q : Nat} (hq : q < st.ns.length) (v : Int) : Own3 (w.setCell ⟨gA, q * 3 + 2, none⟩ (.int .i64 v)) base gA gB gC pA pB pC ⟨upd3 st.ns q fun x => { x with p := v }, st.hs, st.ts⟩ :=
  ⟨by
    have e : upd3 st.ns (q : Int) (fun x => { x with p := v }) = st.ns.set q ⟨st.ns[q].l, st.ns[q].n, v⟩ := by
      unfold upd3; rw [if_pos (by omega), Int.toNat_natCast, modify_set _ _ _ hq]
    show Bk _ _ _ (nds (upd3 st.ns (q : Int) _) ++ pA)
    rw [e, ← nds_setP _ _ _ hq]; exact h.A.set_ _ _, h.B.far h.neAB.symm _, h.C.far h.neAC.symm _, h.bA, h.bB, h.bC, h.ne⟩
theorem Own3.setH {w : World} {base gA gB gC : Nat} {pA pB pC : List Value} {st : Ch} (h : Own3 w base gA gB gC pA pB pC st) {q : Nat} (hq : q < st.hs.length) (v : Int) : Own3 (w.setCell ⟨gB, q, none⟩ (.int .i64 v)) base gA gB gC pA pB pC ⟨st.ns, st.hs.set q v, st.ts⟩ :=
  ⟨h.A.far h.neAB _, by rw [← ints_setp _ _ _ hq]; exact h.B.set_ _ _, h.C.far h.ne.symm _, h.bA, h.bB, h.bC, h.ne⟩
theorem Own3.setT {w : World} {base gA gB gC : Nat} {pA pB pC : List Value} {st : Ch} (h : Own3 w base gA gB gC pA pB pC st) {q : Nat} (hq : q < st.ts.length) (v : Int) : Own3 (w.setCell ⟨gC, q, none⟩ (.int .i64 v)) base gA gB gC pA pB pC ⟨st.ns, st.hs, st.ts.set q v⟩ :=
  ⟨h.A.far h.neAC _, h.B.far h.ne _, by rw [← ints_setp _ _ _ hq]; exact h.C.set_ _ _, h.bA, h.bB, h.bC, h.ne⟩
set_option maxRecDepth 100000 in
set_option maxHeartbeats 4000000 in
theorem chain_put_any (base gA gB gC a b c n h t : Nat) (pA pB pC : List Value) (st : Ch) (i q : Nat) (w : World) (h1 : st.ns.length = n) (h2 : st.hs.length = h) (h3 : st.ts.length = t) (hn : n ≤ 1000) (hh : h ≤ 1000) (ht : t ≤ 1000) (hq : q < n) (hi : i < h) (hi' : i < t) (hl : ∀ x ∈ st.ts, -1 ≤ x ∧ x ≤ (n : Int) - 1) (o : Own3 w base gA gB gC pA pB pC st) :
    Calls Try.prog 37 #[csV (some ⟨gA, 0, none⟩) (some ⟨gB, 0, none⟩) (some ⟨gC, 0, none⟩) a b c n h t, .int .i64 i, .int .i64 q] w fun e w' => e = .returned (.tuple #[]) ∧ Own3 w' base gA gB gC pA pB pC (cPut st i q) ∧ Gr3 gA gB gC w w' := by
  have hit : i < st.ts.length := by omega
  have hlb := hl _ (List.getElem_mem hit)
  have HQ := hide (show q < st.ns.length by omega)
  have HI := hide (show i < st.hs.length by omega)
  have HP := hide (show cPut st i q = ⟨upd3 (st.ns.set q ⟨i, -1, st.ts[i]⟩) st.ts[i] (fun x => { x with n := q }), if st.ts[i] = -1 then st.hs.set i q else st.hs, st.ts.set i q⟩ by unfold cPut; simp [List.getD, hit])
  have HL := hide h1
  have hc := o.C.intAt hit
  have HT := hide hit
  generalize st.ts[i] = last at *
  clear h1 h2 h3 hl hit
  have hqn : (q : Int) < (n : Int) := by omega
  have hih : (i : Int) < (h : Int) := by omega
  have hit2 : (i : Int) < (t : Int) := by omega
  go_enter Try.func37, Try.ntmps37
  go_upto_region 1 with fail
  generalize hV : World.alloc w _ = w1
  have hb1 : Below w.heap.size w w1 := by subst hV; (repeat (first | with_reducible exact Below.refl _ _ | with_reducible assumption | with_reducible refine Below.drew ?_ | with_reducible refine Below.drewN ?_ _ | with_reducible refine Below.alloc1 ?_ _ | with_reducible refine Below.setCell1 ?_ (by first | omega | (simp; done) | (simp; omega)) _ | with_reducible refine Below.step ?_ (by with_reducible assumption)))
  have k0 : Bk w1 w.heap.size 30 (csC (some ⟨gA, 0, none⟩) (some ⟨gB, 0, none⟩) (some ⟨gC, 0, none⟩) a b c n h t) := by subst hV; (repeat (first | with_reducible exact Bk.new' _ _ _ _ (by simp; done) | with_reducible assumption | with_reducible refine Bk.alloc ?_ _ | with_reducible refine Bk.drew ?_ | with_reducible refine Bk.drewN ?_ _ | with_reducible refine Bk.step ?_ (by with_reducible assumption) | with_reducible refine Bk.far ?_ (by first | omega | (simp; done) | (simp; omega)) _))
  clear hV
  replace hc := (hb1.cell (p := ⟨gC, i, none⟩) o.C.lt).trans hc
  have g1 : Gr3 gA gB gC w w1 := .of hb1 (Nat.le_refl _)
  replace o := o.gr hb1
  have k0_0 := k0.cell 0; have k0_f0 := k0.frozen 0; have k0_1 := k0.cell 1; have k0_f1 := k0.frozen 1; have k0_2 := k0.cell 2; have k0_f2 := k0.frozen 2; simp only [List.set_cons_zero, List.set_cons_succ, List.getElem?_cons_zero, List.getElem?_cons_succ] at k0_0 k0_1 k0_2; have lt_k0 := k0.lt
  go_upto_region 2 with fail
  obtain ⟨oA, oB, oC⟩ := o.out k0 (by decide) (by decide)
  obtain ⟨c1, c2, c3⟩ := o.A.nd HQ.out
  have f1 := o.A.frozen (q * 3)
  have f2 := o.A.frozen (q * 3 + 1)
  have f3 := o.A.frozen (q * 3 + 2)
  go_upto_region 3 with fail
  generalize hV : World.setCell (World.setCell (World.setCell w1 _ _) _ _) _ _ = w2
  have o2 : Own3 w2 base gA gB gC pA pB pC ⟨st.ns.set q ⟨i, -1, last⟩, st.hs, st.ts⟩ := by subst hV; exact o.setA3 HQ.out ⟨i, -1, last⟩
  have g2 : Gr3 gA gB gC w w2 := by subst hV; exact ((g1.set1 (.inl rfl) _).set1 (.inl rfl) _).set1 (.inl rfl) _
  have k2 : Bk w2 w.heap.size 30 (csC (some ⟨gA, 0, none⟩) (some ⟨gB, 0, none⟩) (some ⟨gC, 0, none⟩) a b c n h t) := by subst hV; exact ((k0.far oA _).far oA _).far oA _
  (try clear k0_0 k0_f0 k0_1 k0_f1 k0_2 k0_f2 lt_k0)
  clear hV o g1 k0 c1 c2 c3 f1 f2 f3 hc hb1
  by_cases hm : last = -1
  · subst hm
    have k2_0 := k2.cell 0; have k2_f0 := k2.frozen 0; have k2_1 := k2.cell 1; have k2_f1 := k2.frozen 1; have k2_2 := k2.cell 2; have k2_f2 := k2.frozen 2; simp only [List.set_cons_zero, List.set_cons_succ, List.getElem?_cons_zero, List.getElem?_cons_succ] at k2_0 k2_1 k2_2; have lt_k2 := k2.lt
    have cB := o2.B.intAt HI.out
    have fB := o2.B.frozen i
    go_upto_region 6 with fail
    generalize hV : World.setCell w2 _ _ = w3
    have o3 := o2.setH HI.out (q : Int)
    have g3 : Gr3 gA gB gC w w3 := by subst hV; exact g2.set1 (.inr (.inl rfl)) _
    have k3 : Bk w3 w.heap.size 30 (csC (some ⟨gA, 0, none⟩) (some ⟨gB, 0, none⟩) (some ⟨gC, 0, none⟩) a b c n h t) := by subst hV; exact k2.far oB _
    rw [hV] at o3
    (try clear k2_0 k2_f0 k2_1 k2_f1 k2_2 k2_f2 lt_k2)
    clear hV o2 g2 k2 cB fB
    have k3_0 := k3.cell 0; have k3_f0 := k3.frozen 0; have k3_1 := k3.cell 1; have k3_f1 := k3.frozen 1; have k3_2 := k3.cell 2; have k3_f2 := k3.frozen 2; simp only [List.set_cons_zero, List.set_cons_succ, List.getElem?_cons_zero, List.getElem?_cons_succ] at k3_0 k3_1 k3_2; have lt_k3 := k3.lt
    have cC := o3.C.intAt HT.out
    have fC := o3.C.frozen i
    go_wp2
    refine bodyPost_end (results_none rfl _ _ _) rfl ?_
    refine ⟨rfl, ?_, g3.set1 (.inr (.inr rfl)) _⟩
    have o4 := o3.setT HT.out (q : Int)
    rw [HP.out]
    simpa [upd3] using o4
  · obtain ⟨p, rfl⟩ : ∃ p : Nat, last = (p : Int) := ⟨last.toNat, by omega⟩
    have hpn : (p : Int) < (n : Int) := by omega
    have HPn := hide (show p < (st.ns.set q ⟨i, -1, p⟩).length by rw [List.length_set, HL.out]; omega)
    have k2_0 := k2.cell 0; have k2_f0 := k2.frozen 0; have k2_1 := k2.cell 1; have k2_f1 := k2.frozen 1; have k2_2 := k2.cell 2; have k2_f2 := k2.frozen 2; simp only [List.set_cons_zero, List.set_cons_succ, List.getElem?_cons_zero, List.getElem?_cons_succ] at k2_0 k2_1 k2_2; have lt_k2 := k2.lt
    obtain ⟨c1, c2, c3⟩ := o2.A.nd HPn.out
    have f2 := o2.A.frozen (p * 3 + 1)
    go_upto_region 6 with fail
    generalize hV : World.setCell w2 _ _ = w3
    have o3 := o2.setN HPn.out (q : Int)
    have g3 : Gr3 gA gB gC w w3 := by subst hV; exact g2.set1 (.inl rfl) _
    have k3 : Bk w3 w.heap.size 30 (csC (some ⟨gA, 0, none⟩) (some ⟨gB, 0, none⟩) (some ⟨gC, 0, none⟩) a b c n h t) := by subst hV; exact k2.far oA _
    rw [hV] at o3
    (try clear k2_0 k2_f0 k2_1 k2_f1 k2_2 k2_f2 lt_k2)
    clear hV o2 g2 k2 c1 c2 c3 f2
    have k3_0 := k3.cell 0; have k3_f0 := k3.frozen 0; have k3_1 := k3.cell 1; have k3_f1 := k3.frozen 1; have k3_2 := k3.cell 2; have k3_f2 := k3.frozen 2; simp only [List.set_cons_zero, List.set_cons_succ, List.getElem?_cons_zero, List.getElem?_cons_succ] at k3_0 k3_1 k3_2; have lt_k3 := k3.lt
    have cC := o3.C.intAt HT.out
    have fC := o3.C.frozen i
    go_wp2
    refine bodyPost_end (results_none rfl _ _ _) rfl ?_
    refine ⟨rfl, ?_, g3.set1 (.inr (.inr rfl)) _⟩
    have o4 := o3.setT HT.out (q : Int)
    rw [HP.out, if_neg (by omega)]
    exact o4
end Go.Proofs.Ythicpjfdljgfpaa
