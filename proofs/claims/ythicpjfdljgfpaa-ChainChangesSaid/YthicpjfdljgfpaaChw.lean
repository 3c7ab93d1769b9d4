/- Package chain: Splice. -/
import Derived.Test.YthicpjfdljgfpaaChv
namespace Go.Proofs.Ythicpjfdljgfpaa
open Go.RowKit Go.Sort
set_option linter.unusedSimpArgs false
set_option linter.unusedVariables false

noncomputable def muOf {ι : Type} (R : ι → Prop) (m : ι → Nat) : Nat := by
  classical
  exact if h : ∃ n, ∃ i, R i ∧ m i = n then Classical.choose (min_of h) else 0
theorem muOf_le {ι : Type} {R : ι → Prop} {m : ι → Nat} {i : ι} (hi : R i) : muOf R m ≤ m i := by
  have h : ∃ n, ∃ i, R i ∧ m i = n := ⟨m i, i, hi, rfl⟩
  unfold muOf
  rw [dif_pos h]
  exact (Classical.choose_spec (min_of h)).2 _ ⟨i, hi, rfl⟩
theorem muOf_at {ι : Type} {R : ι → Prop} {m : ι → Nat} (hR : ∃ i, R i) : ∃ i, R i ∧ m i = muOf R m := by
  obtain ⟨i, hi⟩ := hR
  have h : ∃ n, ∃ i, R i ∧ m i = n := ⟨m i, i, hi, rfl⟩
  obtain ⟨j, hj, hm⟩ := (Classical.choose_spec (min_of h)).1
  refine ⟨j, hj, ?_⟩
  unfold muOf
  rw [dif_pos h, hm]
/-- what holds ahead of a round of Splice -/
structure SpR (w : World) (base gA gB gC Y a' b' c' : Nat) (pA pB pC : List Value) (st : Ch) (i j : Nat) (L0 L : List (List Nat)) (wr : World) : Prop where
  o : Own3 wr base gA gB gC pA pB pC (laid st.ns.length L)
  vl : Vl st.ns.length L
  fin : Hid (fin L i j = fin L0 i j)
  len : Hid (L.length = st.hs.length)
  k1 : Bk wr (w.heap.size + 1) 30 (csC none none none 0 0 0 0 0 0)
  k2 : Bk wr Y 30 (csC (some ⟨gA, 0, none⟩) (some ⟨gB, 0, none⟩) (some ⟨gC, 0, none⟩) a' b' c' st.ns.length st.hs.length st.ts.length)
  hb : Below w.heap.size w wr
set_option maxRecDepth 100000 in
set_option maxHeartbeats 8000000 in
theorem chain_Splice_any (V : Value) (st : Ch) (i0 j0 : Int) (w : World) (h1 : st.ns.length ≤ 1000) (h2 : st.hs.length ≤ 1000) (h3 : st.ts.length ≤ 1000) (hV : CsAt w V st) :
    Calls Try.prog 14 #[V, .int .i64 i0, .int .i64 j0] w fun e w' => ∃ V', e = .returned (.tuple #[V', .int .i64 (dSplice st i0 j0).2]) ∧ CsNew w.heap.size w' V' (dSplice st i0 j0).1 ∧ Below w.heap.size w w' := by
  obtain ⟨A, B, C, a, b, c, rfl, rA, rB, rC⟩ := hV
  have HR := hide (show dSplice st i0 j0 = if cCheck st ≠ 0 then (st, cCheck st) else if cIn i0 0 ((st.hs.length : Int) - 1) = false then (st, 8) else if cIn j0 0 ((st.hs.length : Int) - 1) = false then (st, 8) else if i0 = j0 then (st, 2) else
    (laid st.ns.length (((lists st).set j0.toNat (nth (lists st) j0.toNat ++ nth (lists st) i0.toNat)).set i0.toNat []), 0) from rfl)
  generalize dSplice st i0 j0 = R at *
  go_enter Try.func14, Try.ntmps14
  go_wp2_with fail
  generalize hV : World.alloc (World.alloc w _) _ = w1
  have hb1 : Below w.heap.size w w1 := by subst hV; (repeat (first | with_reducible exact Below.refl _ _ | with_reducible assumption | with_reducible refine Below.drew ?_ | with_reducible refine Below.drewN ?_ _ | with_reducible refine Below.alloc1 ?_ _ | with_reducible refine Below.setCell1 ?_ (by first | omega | (simp; done) | (simp; omega)) _ | with_reducible refine Below.step ?_ (by with_reducible assumption)))
  have k0 : Bk w1 w.heap.size 30 (csC A B C a b c st.ns.length st.hs.length st.ts.length) := by subst hV; (repeat (first | with_reducible exact Bk.new' _ _ _ _ (by simp; done) | with_reducible assumption | with_reducible refine Bk.alloc ?_ _ | with_reducible refine Bk.drew ?_ | with_reducible refine Bk.drewN ?_ _ | with_reducible refine Bk.step ?_ (by with_reducible assumption) | with_reducible refine Bk.far ?_ (by first | omega | (simp; done) | (simp; omega)) _))
  have k1 : Bk w1 (w.heap.size + 1) 30 (csC none none none 0 0 0 0 0 0) := by subst hV; exact Bk.new' (World.alloc w _) 30 (csC none none none 0 0 0 0 0 0) _ (by simp)
  clear hV
  have lt1 := k1.lt
  replace rA := rA.step hb1; replace rB := rB.step hb1; replace rC := rC.step hb1
  refine (chain_own_ap A B C a b c st _ h1 h2 h3 rA rB rC).mono ?_; rintro e w2 ⟨A', B', C', a', b', c', rfl, oA, oB, oC, hne, hy⟩
  have k0_0 := k0.cell 0; have k0_f0 := k0.frozen 0; have k0_1 := k0.cell 1; have k0_f1 := k0.frozen 1; have k0_2 := k0.cell 2; have k0_f2 := k0.frozen 2; simp only [List.set_cons_zero, List.set_cons_succ, List.getElem?_cons_zero, List.getElem?_cons_succ] at k0_0 k0_1 k0_2; have lt_k0 := k0.lt
  replace k0 := k0.step hy; (try clear k0_0 k0_f0 k0_1 k0_f1 k0_2 k0_f2); have k0_0 := k0.cell 0; have k0_f0 := k0.frozen 0; have k0_1 := k0.cell 1; have k0_f1 := k0.frozen 1; have k0_2 := k0.cell 2; have k0_f2 := k0.frozen 2; simp only [List.set_cons_zero, List.set_cons_succ, List.getElem?_cons_zero, List.getElem?_cons_succ] at k0_0 k0_1 k0_2; (try clear lt_k0); have lt_k0 := k0.lt; replace k1 := k1.step hy; (try clear lt_k1); have lt_k1 := k1.lt
  replace rA := rA.step hy; replace rB := rB.step hy; replace rC := rC.step hy
  replace hb1 : Below w.heap.size w w2 := by (repeat (first | with_reducible exact Below.refl _ _ | with_reducible assumption | with_reducible refine Below.drew ?_ | with_reducible refine Below.drewN ?_ _ | with_reducible refine Below.alloc1 ?_ _ | with_reducible refine Below.setCell1 ?_ (by first | omega | (simp; done) | (simp; omega)) _ | with_reducible refine Below.step ?_ (by with_reducible assumption)))
  have hsz := hy.size
  have bkA : ∀ ad, A' = some ad → ad.block < w2.heap.size := fun ad e => (own_blk oA ad e).2
  have bkB : ∀ ad, B' = some ad → ad.block < w2.heap.size := fun ad e => (own_blk oB ad e).2
  have bkC : ∀ ad, C' = some ad → ad.block < w2.heap.size := fun ad e => (own_blk oC ad e).2
  clear hy
  go_wp2_with fail
  generalize hV : World.alloc w2 _ = w3
  have hy : Below w2.heap.size w2 w3 := by subst hV; (repeat (first | with_reducible exact Below.refl _ _ | with_reducible assumption | with_reducible refine Below.drew ?_ | with_reducible refine Below.drewN ?_ _ | with_reducible refine Below.alloc1 ?_ _ | with_reducible refine Below.setCell1 ?_ (by first | omega | (simp; done) | (simp; omega)) _ | with_reducible refine Below.step ?_ (by with_reducible assumption)))
  have k2 : Bk w3 w2.heap.size 30 (csC A' B' C' a' b' c' st.ns.length st.hs.length st.ts.length) := by subst hV; (repeat (first | with_reducible exact Bk.new' _ _ _ _ (by simp; done) | with_reducible assumption | with_reducible refine Bk.alloc ?_ _ | with_reducible refine Bk.drew ?_ | with_reducible refine Bk.drewN ?_ _ | with_reducible refine Bk.step ?_ (by with_reducible assumption) | with_reducible refine Bk.far ?_ (by first | omega | (simp; done) | (simp; omega)) _))
  clear hV
  replace k0 := k0.step hy; (try clear k0_0 k0_f0 k0_1 k0_f1 k0_2 k0_f2); have k0_0 := k0.cell 0; have k0_f0 := k0.frozen 0; have k0_1 := k0.cell 1; have k0_f1 := k0.frozen 1; have k0_2 := k0.cell 2; have k0_f2 := k0.frozen 2; simp only [List.set_cons_zero, List.set_cons_succ, List.getElem?_cons_zero, List.getElem?_cons_succ] at k0_0 k0_1 k0_2; (try clear lt_k0); have lt_k0 := k0.lt; replace k1 := k1.step hy; (try clear lt_k1); have lt_k1 := k1.lt
  replace rA := rA.step hy; replace rB := rB.step hy; replace rC := rC.step hy
  replace hb1 : Below w.heap.size w w3 := by (repeat (first | with_reducible exact Below.refl _ _ | with_reducible assumption | with_reducible refine Below.drew ?_ | with_reducible refine Below.drewN ?_ _ | with_reducible refine Below.alloc1 ?_ _ | with_reducible refine Below.setCell1 ?_ (by first | omega | (simp; done) | (simp; omega)) _ | with_reducible refine Below.step ?_ (by with_reducible assumption)))
  have lt2 := k2.lt
  refine (chain_Check_any A B C a b c st _ h1 h2 h3 rA rB rC).mono ?_; rintro e w4 ⟨rfl, hx⟩
  replace oA := own_below (own_below oA hy (Nat.le_refl _)) hx (Nat.le_refl _)
  replace oB := own_below (own_below oB hy (Nat.le_refl _)) hx (Nat.le_refl _)
  replace oC := own_below (own_below oC hy (Nat.le_refl _)) hx (Nat.le_refl _)
  replace k0 := k0.step hx; (try clear k0_0 k0_f0 k0_1 k0_f1 k0_2 k0_f2); have k0_0 := k0.cell 0; have k0_f0 := k0.frozen 0; have k0_1 := k0.cell 1; have k0_f1 := k0.frozen 1; have k0_2 := k0.cell 2; have k0_f2 := k0.frozen 2; simp only [List.set_cons_zero, List.set_cons_succ, List.getElem?_cons_zero, List.getElem?_cons_succ] at k0_0 k0_1 k0_2; (try clear lt_k0); have lt_k0 := k0.lt; replace k1 := k1.step hx; (try clear lt_k1); have lt_k1 := k1.lt; replace k2 := k2.step hx; (try clear lt_k2); have lt_k2 := k2.lt
  replace rA := rA.step hx; replace rB := rB.step hx
  replace hb1 : Below w.heap.size w w4 := by (repeat (first | with_reducible exact Below.refl _ _ | with_reducible assumption | with_reducible refine Below.drew ?_ | with_reducible refine Below.drewN ?_ _ | with_reducible refine Below.alloc1 ?_ _ | with_reducible refine Below.setCell1 ?_ (by first | omega | (simp; done) | (simp; omega)) _ | with_reducible refine Below.step ?_ (by with_reducible assumption)))
  (try clear k0_0 k0_f0 k0_1 k0_f1 k0_2 k0_f2 lt_k0)
  clear hx hy rC
  have hne1 : w.heap.size + 1 ≠ w2.heap.size := by omega
  by_cases hc : cCheck st = 0
  case neg =>
    have bc : (cCheck st != 0) = true := by simpa using hc
    have hR := hide (show R = (st, cCheck st) by rw [HR.out, if_pos hc])
    clear HR hc k0 rA rB
    generalize cCheck st = cv at *
    go_wp2_with (first | (refine wpList_load_row rfl 30 _ rfl _ rfl _ _ (0, 0) _ k2 Try.underlying30 rfl (by kernel_rfl) ?_) | (refine wpList_store_row rfl 30 _ _ rfl _ (csC A' B' C' a' b' c' st.ns.length st.hs.length st.ts.length).toArray rfl rfl _ _ k1 (by kernel_rfl) (by kernel_rfl) (by kernel_rfl) ?_))
    have r1 := k1.row (csC A' B' C' a' b' c' st.ns.length st.hs.length st.ts.length)
    refine bodyPost_ret (results_row_tmp rfl _ _ (w.heap.size + 1) _ _ _ rfl r1 Try.underlying30 rfl (by kernel_rfl)) rfl ⟨csV A' B' C' a' b' c' st.ns.length st.hs.length st.ts.length, ?_, ?_, setRow_below hb1 (by omega) _⟩
    · rw [hR.out]; rfl
    · rw [hR.out]; exact ⟨_, _, _, _, _, _, rfl, rwn_own (own_rowfar oA lt1 _) (by omega), rwn_own (own_rowfar oB lt1 _) (by omega), rwn_own (own_rowfar oC lt1 _) (by omega)⟩
  obtain ⟨⟨n1, hh1, hh2⟩, bn, bh, bt⟩ := check_bd hc
  obtain ⟨hG, hE⟩ := good_of hc
  have HG := hide hG
  have HE := hide hE
  have HR1 := hide (show R = if cIn i0 0 ((st.hs.length : Int) - 1) = false then (st, 8) else if cIn j0 0 ((st.hs.length : Int) - 1) = false then (st, 8) else if i0 = j0 then (st, 2) else (laid st.ns.length (fin (lists st) i0.toNat j0.toNat), 0) by rw [HR.out, if_neg (by simp [hc])]; rfl)
  have bc : (cCheck st != 0) = false := by simpa using hc
  have HH2 := hide hh2
  clear HR bn bh bt hc hh2 hG hE rA rB
  generalize cCheck st = cv at *
  have k0_0 := k0.cell 0; have k0_f0 := k0.frozen 0; have k0_1 := k0.cell 1; have k0_f1 := k0.frozen 1; have k0_2 := k0.cell 2; have k0_f2 := k0.frozen 2; simp only [List.set_cons_zero, List.set_cons_succ, List.getElem?_cons_zero, List.getElem?_cons_succ] at k0_0 k0_1 k0_2; have lt_k0 := k0.lt
  have hI := fun W => chain_is_any A B C a b c st.ns.length st.hs.length st.ts.length i0 W (by unfold maxLen; omega)
  have hJ := fun W => chain_is_any A B C a b c st.ns.length st.hs.length st.ts.length j0 W (by unfold maxLen; omega)
  go_wp2_with (first | (refine wpList_load_row rfl 30 _ rfl _ rfl _ _ (0, 0) _ k2 Try.underlying30 rfl (by kernel_rfl) ?_))
  refine (hI _).mono ?_; rintro e w5 ⟨rfl, hx⟩
  replace k0 := k0.step hx; (try clear k0_0 k0_f0 k0_1 k0_f1 k0_2 k0_f2); have k0_0 := k0.cell 0; have k0_f0 := k0.frozen 0; have k0_1 := k0.cell 1; have k0_f1 := k0.frozen 1; have k0_2 := k0.cell 2; have k0_f2 := k0.frozen 2; simp only [List.set_cons_zero, List.set_cons_succ, List.getElem?_cons_zero, List.getElem?_cons_succ] at k0_0 k0_1 k0_2; (try clear lt_k0); have lt_k0 := k0.lt; replace k1 := k1.step hx; (try clear lt_k1); have lt_k1 := k1.lt; replace k2 := k2.step hx; (try clear lt_k2); have lt_k2 := k2.lt
  replace oA := own_below oA hx (Nat.le_refl _)
  replace oB := own_below oB hx (Nat.le_refl _)
  replace oC := own_below oC hx (Nat.le_refl _)
  replace hb1 : Below w.heap.size w w5 := by (repeat (first | with_reducible exact Below.refl _ _ | with_reducible assumption | with_reducible refine Below.drew ?_ | with_reducible refine Below.drewN ?_ _ | with_reducible refine Below.alloc1 ?_ _ | with_reducible refine Below.setCell1 ?_ (by first | omega | (simp; done) | (simp; omega)) _ | with_reducible refine Below.step ?_ (by with_reducible assumption)))
  clear hx hI
  cases hv : cIn i0 0 ((st.hs.length : Int) - 1)
  · have hR := hide (show R = (st, 8) by rw [HR1.out, if_pos hv])
    (try clear k0_0 k0_f0 k0_1 k0_f1 k0_2 k0_f2 lt_k0)
    clear HR1 hv k0 hJ
    go_wp2_with (first | (refine wpList_load_row rfl 30 _ rfl _ rfl _ _ (0, 0) _ k2 Try.underlying30 rfl (by kernel_rfl) ?_) | (refine wpList_store_row rfl 30 _ _ rfl _ (csC A' B' C' a' b' c' st.ns.length st.hs.length st.ts.length).toArray rfl rfl _ _ k1 (by kernel_rfl) (by kernel_rfl) (by kernel_rfl) ?_))
    have r1 := k1.row (csC A' B' C' a' b' c' st.ns.length st.hs.length st.ts.length)
    refine bodyPost_ret (results_row_tmp rfl _ _ (w.heap.size + 1) _ _ _ rfl r1 Try.underlying30 rfl (by kernel_rfl)) rfl ⟨csV A' B' C' a' b' c' st.ns.length st.hs.length st.ts.length, ?_, ?_, setRow_below hb1 (by omega) _⟩
    · rw [hR.out]; rfl
    · rw [hR.out]; exact ⟨_, _, _, _, _, _, rfl, rwn_own (own_rowfar oA lt1 _) (by omega), rwn_own (own_rowfar oB lt1 _) (by omega), rwn_own (own_rowfar oC lt1 _) (by omega)⟩
  have hb := cIn_t hv
  obtain ⟨i, rfl⟩ : ∃ i : Nat, i0 = (i : Int) := ⟨i0.toNat, by omega⟩
  have hi : i < st.hs.length := by omega
  have hi2 : (i : Int) < (st.hs.length : Int) := by omega
  have HR2 := hide (show R = if cIn j0 0 ((st.hs.length : Int) - 1) = false then (st, 8) else if (i : Int) = j0 then (st, 2) else (laid st.ns.length (fin (lists st) i j0.toNat), 0) by rw [HR1.out, if_neg (by simp [hv])]; simp)
  clear HR1 hv hb
  go_wp2_with (first | (refine wpList_load_row rfl 30 _ rfl _ rfl _ _ (0, 0) _ k2 Try.underlying30 rfl (by kernel_rfl) ?_))
  refine (hJ _).mono ?_; rintro e w6 ⟨rfl, hx⟩
  replace k0 := k0.step hx; (try clear k0_0 k0_f0 k0_1 k0_f1 k0_2 k0_f2); have k0_0 := k0.cell 0; have k0_f0 := k0.frozen 0; have k0_1 := k0.cell 1; have k0_f1 := k0.frozen 1; have k0_2 := k0.cell 2; have k0_f2 := k0.frozen 2; simp only [List.set_cons_zero, List.set_cons_succ, List.getElem?_cons_zero, List.getElem?_cons_succ] at k0_0 k0_1 k0_2; (try clear lt_k0); have lt_k0 := k0.lt; replace k1 := k1.step hx; (try clear lt_k1); have lt_k1 := k1.lt; replace k2 := k2.step hx; (try clear lt_k2); have lt_k2 := k2.lt
  replace oA := own_below oA hx (Nat.le_refl _)
  replace oB := own_below oB hx (Nat.le_refl _)
  replace oC := own_below oC hx (Nat.le_refl _)
  replace hb1 : Below w.heap.size w w6 := by (repeat (first | with_reducible exact Below.refl _ _ | with_reducible assumption | with_reducible refine Below.drew ?_ | with_reducible refine Below.drewN ?_ _ | with_reducible refine Below.alloc1 ?_ _ | with_reducible refine Below.setCell1 ?_ (by first | omega | (simp; done) | (simp; omega)) _ | with_reducible refine Below.step ?_ (by with_reducible assumption)))
  clear hx hJ
  cases hv : cIn j0 0 ((st.hs.length : Int) - 1)
  · have hR := hide (show R = (st, 8) by rw [HR2.out, if_pos hv])
    (try clear k0_0 k0_f0 k0_1 k0_f1 k0_2 k0_f2 lt_k0)
    clear HR2 hv k0
    go_wp2_with (first | (refine wpList_load_row rfl 30 _ rfl _ rfl _ _ (0, 0) _ k2 Try.underlying30 rfl (by kernel_rfl) ?_) | (refine wpList_store_row rfl 30 _ _ rfl _ (csC A' B' C' a' b' c' st.ns.length st.hs.length st.ts.length).toArray rfl rfl _ _ k1 (by kernel_rfl) (by kernel_rfl) (by kernel_rfl) ?_))
    have r1 := k1.row (csC A' B' C' a' b' c' st.ns.length st.hs.length st.ts.length)
    refine bodyPost_ret (results_row_tmp rfl _ _ (w.heap.size + 1) _ _ _ rfl r1 Try.underlying30 rfl (by kernel_rfl)) rfl ⟨csV A' B' C' a' b' c' st.ns.length st.hs.length st.ts.length, ?_, ?_, setRow_below hb1 (by omega) _⟩
    · rw [hR.out]; rfl
    · rw [hR.out]; exact ⟨_, _, _, _, _, _, rfl, rwn_own (own_rowfar oA lt1 _) (by omega), rwn_own (own_rowfar oB lt1 _) (by omega), rwn_own (own_rowfar oC lt1 _) (by omega)⟩
  have hb := cIn_t hv
  obtain ⟨j, rfl⟩ : ∃ j : Nat, j0 = (j : Int) := ⟨j0.toNat, by omega⟩
  have hj : j < st.hs.length := by omega
  have HR3 := hide (show R = if i = j then (st, 2) else (laid st.ns.length (fin (lists st) i j), 0) by
    rw [HR2.out, if_neg (by simp [hv]), Int.toNat_natCast]
    by_cases e : i = j
    · rw [if_pos e, if_pos (by omega)]
    · rw [if_neg e, if_neg (by omega)])
  clear HR2 hv hb
  (try clear k0_0 k0_f0 k0_1 k0_f1 k0_2 k0_f2 lt_k0)
  clear k0
  by_cases hij : i = j
  · have hR := hide (show R = (st, 2) by rw [HR3.out, if_pos hij])
    have bij : ((i : Int) == (j : Int)) = true := by simp [hij]
    clear HR3 hij
    go_wp2_with (first | (refine wpList_load_row rfl 30 _ rfl _ rfl _ _ (0, 0) _ k2 Try.underlying30 rfl (by kernel_rfl) ?_) | (refine wpList_store_row rfl 30 _ _ rfl _ (csC A' B' C' a' b' c' st.ns.length st.hs.length st.ts.length).toArray rfl rfl _ _ k1 (by kernel_rfl) (by kernel_rfl) (by kernel_rfl) ?_))
    have r1 := k1.row (csC A' B' C' a' b' c' st.ns.length st.hs.length st.ts.length)
    refine bodyPost_ret (results_row_tmp rfl _ _ (w.heap.size + 1) _ _ _ rfl r1 Try.underlying30 rfl (by kernel_rfl)) rfl ⟨csV A' B' C' a' b' c' st.ns.length st.hs.length st.ts.length, ?_, ?_, setRow_below hb1 (by omega) _⟩
    · rw [hR.out]; rfl
    · rw [hR.out]; exact ⟨_, _, _, _, _, _, rfl, rwn_own (own_rowfar oA lt1 _) (by omega), rwn_own (own_rowfar oB lt1 _) (by omega), rwn_own (own_rowfar oC lt1 _) (by omega)⟩
  have hR := hide (show R = (laid st.ns.length (fin (lists st) i j), 0) by rw [HR3.out, if_neg hij])
  have bij : ((i : Int) == (j : Int)) = false := by simp; omega
  clear HR3
  obtain ⟨gA, pA, rfl, bA, cA, kA⟩ := own_bk oA (by omega)
  obtain ⟨gB, pB, rfl, bB, cB, kB⟩ := own_bk oB (by omega)
  obtain ⟨gC, pC, rfl, bC, cC, kC⟩ := own_bk oC (by have := HH2.out; omega)
  have o3 : Own3 w6 w1.heap.size gA gB gC pA pB pC st := ⟨kA, kB, kC, bA, bB, bC, hne _ _ rfl rfl⟩
  have ltA : gA < w2.heap.size := bkA _ rfl
  have ltB : gB < w2.heap.size := bkB _ rfl
  have ltC : gC < w2.heap.size := bkC _ rfl
  clear kA kB kC cA cB cC hne bkA bkB bkC oA oB oC
  rw [HE.out] at o3
  have H0 := hide (show (lists st).length = st.hs.length from lists_len st)
  have hvl := HG.out.vl
  clear HG HE
  generalize lists st = L0 at *
  have HLn := hide (show (laid st.ns.length L0).ns.length = st.ns.length ∧ (laid st.ns.length L0).hs.length = st.hs.length ∧ (laid st.ns.length L0).ts.length = st.ts.length from ⟨(laid_lens _ _).1, (laid_lens _ _).2.1.trans H0.out, ((laid_lens _ _).2.2.trans H0.out).trans HH2.out.symm⟩)
  go_upto_region 10 with (first | (refine wpList_load_row rfl 30 _ rfl _ rfl _ _ (0, 0) _ k2 Try.underlying30 rfl (by kernel_rfl) ?_))
  go_loopw [10] (fun fv wr => ∃ L, SpR w w1.heap.size gA gB gC w2.heap.size a' b' c' pA pB pC st i j L0 L wr) (fun fv wr => muOf (fun L => SpR w w1.heap.size gA gB gC w2.heap.size a' b' c' pA pB pC st i j L0 L wr) (fun L => (nth L i).length))
  case atStart => exact ⟨L0, o3, hvl, hide rfl, H0, k1, k2, hb1⟩
  case round =>
    clear o3 hvl k1 k2 hb1 lt_k1 lt_k2 HLn
    obtain ⟨L, ⟨o, hv, HF, HL, k1, k2, hb⟩, hmu⟩ := muOf_at (m := fun L => (nth L i).length) hrel
    have HMU := hide hmu
    clear hmu hrel
    have hil : i < L.length := by rw [HL.out]; exact hi
    have hjl : j < L.length := by rw [HL.out]; exact hj
    have HLn := hide (show (laid st.ns.length L).ns.length = st.ns.length ∧ (laid st.ns.length L).hs.length = st.hs.length ∧ (laid st.ns.length L).ts.length = st.ts.length from ⟨(laid_lens _ _).1, (laid_lens _ _).2.1.trans HL.out, ((laid_lens _ _).2.2.trans HL.out).trans HH2.out.symm⟩)
    have cH : wr.cell? ⟨gB, i, none⟩ = some (.int .i64 (hd (nth L i))) := by
      have h5 : i < (laid st.ns.length L).hs.length := by rw [(laid_lens _ _).2.1]; exact hil
      have h6 := o.B.intAt h5
      have h7 := hs_at (n := st.ns.length) hil
      rw [List.getElem?_eq_getElem h5] at h7
      injection h7 with h7
      rw [h7] at h6
      exact h6
    have lt_k1 := k1.lt
    have lt_k2 := k2.lt
    have kC := k2
    have kC_0 := kC.cell 0; have kC_f0 := kC.frozen 0; have kC_1 := kC.cell 1; have kC_f1 := kC.frozen 1; have kC_2 := kC.cell 2; have kC_f2 := kC.frozen 2; simp only [List.set_cons_zero, List.set_cons_succ, List.getElem?_cons_zero, List.getElem?_cons_succ] at kC_0 kC_1 kC_2; have lt_kC := kC.lt
    cases hn : nth L i with
    | nil =>
      have e0 := fin_end hil hjl hij hn
      have hR2 := hide (show R = (laid st.ns.length L, 0) by rw [hR.out, ← HF.out, e0])
      rw [hn] at cH
      simp only [hd] at cH
      clear hn HMU HF hR e0
      go_upto_region 14 with fail
      (try clear kC_0 kC_f0 kC_1 kC_f1 kC_2 kC_f2 lt_kC)
      clear cH kC
      go_wp2_with (first | (refine wpList_load_row rfl 30 _ rfl _ rfl _ _ (0, 0) _ k2 Try.underlying30 rfl (by kernel_rfl) ?_) | (refine wpList_store_row rfl 30 _ _ rfl _ (csC (some ⟨gA, 0, none⟩) (some ⟨gB, 0, none⟩) (some ⟨gC, 0, none⟩) a' b' c' st.ns.length st.hs.length st.ts.length).toArray rfl rfl _ _ k1 (by kernel_rfl) (by kernel_rfl) (by kernel_rfl) ?_))
      have r1 := k1.row (csC (some ⟨gA, 0, none⟩) (some ⟨gB, 0, none⟩) (some ⟨gC, 0, none⟩) a' b' c' st.ns.length st.hs.length st.ts.length)
      refine bodyPost_ret (results_row_tmp rfl _ _ (w.heap.size + 1) _ _ _ rfl r1 Try.underlying30 rfl (by kernel_rfl)) rfl ⟨csV (some ⟨gA, 0, none⟩) (some ⟨gB, 0, none⟩) (some ⟨gC, 0, none⟩) a' b' c' st.ns.length st.hs.length st.ts.length, ?_, ?_, setRow_below hb (by omega) _⟩
      · rw [hR2.out]; rfl
      · rw [hR2.out]
        have := (o.row lt1 (csC (some ⟨gA, 0, none⟩) (some ⟨gB, 0, none⟩) (some ⟨gC, 0, none⟩) a' b' c' st.ns.length st.hs.length st.ts.length).toArray).new_ (k := w.heap.size) (a := a') (b := b') (c := c') (by omega)
        rw [HLn.out.1, HLn.out.2.1, HLn.out.2.2] at this
        exact this
    | cons f m =>
      obtain ⟨m1, m2, m3, m4, _, m6⟩ := mv_cut hv hil hn
      obtain ⟨p1, p2⟩ := mv_put hv hil hjl hn
      have M2 := hide m2
      have M3 := hide m3
      have P1 := hide p1
      have b2 := hd_bd m6
      have HT2 := hide (ts_bd m4)
      have HF2 := hide ((fin_mv hil hjl hij hn).trans HF.out)
      have HM2 := hide (show (nth (mv L i j) i).length < (nth L i).length by rw [mv_less hil hjl hij hn, hn]; simp)
      have HL2 := hide (show (mv L i j).length = st.hs.length from (mv_len L i j).trans HL.out)
      have HLc := hide (show (laid st.ns.length (L.set i m)).ns.length = st.ns.length ∧ (laid st.ns.length (L.set i m)).hs.length = st.hs.length ∧ (laid st.ns.length (L.set i m)).ts.length = st.ts.length from ⟨(laid_lens _ _).1, by rw [(laid_lens _ _).2.1, List.length_set]; exact HL.out, by rw [(laid_lens _ _).2.2, List.length_set, HL.out, HH2.out]⟩)
      rw [hn] at cH
      simp only [hd] at cH
      have bf : ((f : Int) != -1) = true := by simp
      generalize hd m = nx at *
      clear hn m2 m3 m4 m6 p1 hR HF
      go_upto_region 12 with fail
      (try clear kC_0 kC_f0 kC_1 kC_f1 kC_2 kC_f2 lt_kC)
      clear cH kC
      go_wp2_with (first | (refine wpList_load_row rfl 30 _ rfl _ rfl _ _ (0, 0) _ k2 Try.underlying30 rfl (by kernel_rfl) ?_))
      refine (chain_cut_any w1.heap.size gA gB gC a' b' c' st.ns.length st.hs.length st.ts.length pA pB pC (laid st.ns.length L) f i nx (-1) _ HLn.out.1 HLn.out.2.1 HLn.out.2.2 h1 h2 h3 m1 M2.out hi (by rw [HH2.out]; exact hi) b2 (by omega) o).mono ?_; rintro e w7 ⟨rfl, o4, hg⟩
      rw [M3.out] at o4
      replace k1 := k1.gr3 hg (by omega) (by omega) (by omega)
      replace k2 := k2.gr3 hg (by omega) (by omega) (by omega)
      have lt_k1 := k1.lt
      have lt_k2 := k2.lt
      go_wp2_with (first | (refine wpList_load_row rfl 30 _ rfl _ rfl _ _ (0, 0) _ k2 Try.underlying30 rfl (by kernel_rfl) ?_))
      refine (chain_put_any w1.heap.size gA gB gC a' b' c' st.ns.length st.hs.length st.ts.length pA pB pC (laid st.ns.length (L.set i m)) j f _ HLc.out.1 HLc.out.2.1 HLc.out.2.2 h1 h2 h3 m1 hj (by rw [HH2.out]; exact hj) HT2.out o4).mono ?_; rintro e w8 ⟨rfl, o5, hg2⟩
      rw [P1.out] at o5
      replace hb : Below w.heap.size w w8 := hb.trans ((hg.trans hg2).below (by omega) (by omega) (by omega) (by omega))
      replace k1 := k1.gr3 hg2 (by omega) (by omega) (by omega)
      replace k2 := k2.gr3 hg2 (by omega) (by omega) (by omega)
      clear hg hg2 o4 o lt_k1 lt_k2
      have hnew : SpR w w1.heap.size gA gB gC w2.heap.size a' b' c' pA pB pC st i j L0 (mv L i j) w8 := ⟨o5, p2, HF2, HL2, k1, k2, hb⟩
      go_wp2
      go_roundw
      case rel => exact ⟨_, hnew⟩
      case measure => exact Nat.lt_of_le_of_lt (muOf_le (m := fun L => (nth L i).length) hnew) (by rw [← HMU.out]; exact HM2.out)
end Go.Proofs.Ythicpjfdljgfpaa
