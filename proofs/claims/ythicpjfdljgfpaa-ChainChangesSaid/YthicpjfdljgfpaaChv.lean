/- Package chain: Turn. -/
import Derived.Test.YthicpjfdljgfpaaChu
namespace Go.Proofs.Ythicpjfdljgfpaa
open Go.RowKit Go.Sort
set_option linter.unusedSimpArgs false
set_option linter.unusedVariables false

theorem ts_bd {n : Nat} {L : List (List Nat)} (hv : Vl n L) : ∀ x ∈ (laid n L).ts, -1 ≤ x ∧ x ≤ (n : Int) - 1 := fun x hx => by
  simp only [laid, List.mem_map] at hx
  obtain ⟨l, hl, rfl⟩ := hx
  exact lst_bd (hv.1 l hl)
set_option maxRecDepth 100000 in
set_option maxHeartbeats 8000000 in
theorem chain_Turn_any (V : Value) (st : Ch) (list : Int) (w : World) (h1 : st.ns.length ≤ 1000) (h2 : st.hs.length ≤ 1000) (h3 : st.ts.length ≤ 1000) (hV : CsAt w V st) :
    Calls Try.prog 18 #[V, .int .i64 list] w fun e w' => ∃ V', e = .returned V' ∧ CsNew w.heap.size w' V' (cTurn st list) ∧ Below w.heap.size w w' := by
  obtain ⟨A, B, C, a, b, c, rfl, rA, rB, rC⟩ := hV
  have HR := hide (show cTurn st list = if cCheck st ≠ 0 then st else if cIn list 0 ((st.hs.length : Int) - 1) = false then st else if st.hs.getD list.toNat (-1) = -1 then st else cPut (cCut st (st.hs.getD list.toNat (-1)).toNat) list.toNat (st.hs.getD list.toNat (-1)).toNat from rfl)
  generalize cTurn st list = R at *
  go_enter Try.func18, Try.ntmps18
  go_wp2_with fail
  generalize hV : World.alloc (World.alloc w _) _ = w1
  have hb1 : Below w.heap.size w w1 := by subst hV; (repeat (first | with_reducible exact Below.refl _ _ | with_reducible assumption | with_reducible refine Below.drew ?_ | with_reducible refine Below.drewN ?_ _ | with_reducible refine Below.alloc1 ?_ _ | with_reducible refine Below.setCell1 ?_ (by first | omega | (simp; done) | (simp; omega)) _ | with_reducible refine Below.step ?_ (by with_reducible assumption)))
  have k0 : Bk w1 w.heap.size 30 (csC A B C a b c st.ns.length st.hs.length st.ts.length) := by subst hV; (repeat (first | with_reducible exact Bk.new' _ _ _ _ (by simp; done) | with_reducible assumption | with_reducible refine Bk.alloc ?_ _ | with_reducible refine Bk.drew ?_ | with_reducible refine Bk.drewN ?_ _ | with_reducible refine Bk.step ?_ (by with_reducible assumption) | with_reducible refine Bk.far ?_ (by first | omega | (simp; done) | (simp; omega)) _))
  have k1 : Bk w1 (w.heap.size + 1) 30 (csC none none none 0 0 0 0 0 0) := by subst hV; exact Bk.new' (World.alloc w _) 30 (csC none none none 0 0 0 0 0 0) _ (by simp)
  clear hV
  have lt1 := k1.lt
  replace rA := rA.step hb1; replace rB := rB.step hb1; replace rC := rC.step hb1
  refine (chain_own_ap A B C a b c st _ h1 h2 h3 rA rB rC).mono ?_; rintro e w2 ⟨A', B', C', a', b', c', rfl, oA, oB, oC, hne, hy⟩
  have k0_0 := k0.cell 0; have k0_f0 := k0.frozen 0; have k0_1 := k0.cell 1; have k0_f1 := k0.frozen 1; have k0_2 := k0.cell 2; have k0_f2 := k0.frozen 2; simp only [List.set_cons_zero, List.set_cons_succ, List.getElem?_cons_zero, List.getElem?_cons_succ] at k0_0 k0_1 k0_2; have lt_k0 := k0.lt
  replace k0 := k0.step hy; (try clear k0_0 k0_f0 k0_1 k0_f1 k0_2 k0_f2); have k0_0 := k0.cell 0; have k0_f0 := k0.frozen 0; have k0_1 := k0.cell 1; have k0_f1 := k0.frozen 1; have k0_2 := k0.cell 2; have k0_f2 := k0.frozen 2; simp only [List.set_cons_zero, List.set_cons_succ, List.getElem?_cons_zero, List.getElem?_cons_succ] at k0_0 k0_1 k0_2; (try clear lt_k0); have lt_k0 := k0.lt; replace k1 := k1.step hy; (try clear lt_k1); have lt_k1 := k1.lt
  replace rA := rA.step hy; replace rB := rB.step hy; replace rC := rC.step hy
  replace hb1 : Below w.heap.size w w2 := by (repeat (first | with_reducible exact Below.refl _ _ | with_reducible assumption | with_reducible refine Below.drew ?_ | with_reducible refine Below.drewN ?_ _ | with_reducible refine Below.alloc1 ?_ _ | with_reducible refine Below.setCell1 ?_ (by first | omega | (simp; done) | (simp; omega)) _ | with_reducible refine Below.step ?_ (by with_reducible assumption)))
  have hsz := hy.size
  have bkA : ∀ ad, A' = some ad → ad.block < w2.heap.size := fun ad e => (own_blk oA ad e).2
  have bkB : ∀ ad, B' = some ad → ad.block < w2.heap.size := fun ad e => (own_blk oB ad e).2
  have bkC : ∀ ad, C' = some ad → ad.block < w2.heap.size := fun ad e => (own_blk oC ad e).2
  clear hy
  go_wp2_with fail
  generalize hV : World.alloc w2 _ = w3
  have hy : Below w2.heap.size w2 w3 := by subst hV; (repeat (first | with_reducible exact Below.refl _ _ | with_reducible assumption | with_reducible refine Below.drew ?_ | with_reducible refine Below.drewN ?_ _ | with_reducible refine Below.alloc1 ?_ _ | with_reducible refine Below.setCell1 ?_ (by first | omega | (simp; done) | (simp; omega)) _ | with_reducible refine Below.step ?_ (by with_reducible assumption)))
  have k2 : Bk w3 w2.heap.size 30 (csC A' B' C' a' b' c' st.ns.length st.hs.length st.ts.length) := by subst hV; (repeat (first | with_reducible exact Bk.new' _ _ _ _ (by simp; done) | with_reducible assumption | with_reducible refine Bk.alloc ?_ _ | with_reducible refine Bk.drew ?_ | with_reducible refine Bk.drewN ?_ _ | with_reducible refine Bk.step ?_ (by with_reducible assumption) | with_reducible refine Bk.far ?_ (by first | omega | (simp; done) | (simp; omega)) _))
  clear hV
  replace k0 := k0.step hy; (try clear k0_0 k0_f0 k0_1 k0_f1 k0_2 k0_f2); have k0_0 := k0.cell 0; have k0_f0 := k0.frozen 0; have k0_1 := k0.cell 1; have k0_f1 := k0.frozen 1; have k0_2 := k0.cell 2; have k0_f2 := k0.frozen 2; simp only [List.set_cons_zero, List.set_cons_succ, List.getElem?_cons_zero, List.getElem?_cons_succ] at k0_0 k0_1 k0_2; (try clear lt_k0); have lt_k0 := k0.lt; replace k1 := k1.step hy; (try clear lt_k1); have lt_k1 := k1.lt
  replace rA := rA.step hy; replace rB := rB.step hy; replace rC := rC.step hy
  replace hb1 : Below w.heap.size w w3 := by (repeat (first | with_reducible exact Below.refl _ _ | with_reducible assumption | with_reducible refine Below.drew ?_ | with_reducible refine Below.drewN ?_ _ | with_reducible refine Below.alloc1 ?_ _ | with_reducible refine Below.setCell1 ?_ (by first | omega | (simp; done) | (simp; omega)) _ | with_reducible refine Below.step ?_ (by with_reducible assumption)))
  have lt2 := k2.lt
  refine (chain_Check_any A B C a b c st _ h1 h2 h3 rA rB rC).mono ?_; rintro e w4 ⟨rfl, hx⟩
  replace oA := own_below (own_below oA hy (Nat.le_refl _)) hx (Nat.le_refl _)
  replace oB := own_below (own_below oB hy (Nat.le_refl _)) hx (Nat.le_refl _)
  replace oC := own_below (own_below oC hy (Nat.le_refl _)) hx (Nat.le_refl _)
  replace k0 := k0.step hx; (try clear k0_0 k0_f0 k0_1 k0_f1 k0_2 k0_f2); have k0_0 := k0.cell 0; have k0_f0 := k0.frozen 0; have k0_1 := k0.cell 1; have k0_f1 := k0.frozen 1; have k0_2 := k0.cell 2; have k0_f2 := k0.frozen 2; simp only [List.set_cons_zero, List.set_cons_succ, List.getElem?_cons_zero, List.getElem?_cons_succ] at k0_0 k0_1 k0_2; (try clear lt_k0); have lt_k0 := k0.lt; replace k1 := k1.step hx; (try clear lt_k1); have lt_k1 := k1.lt; replace k2 := k2.step hx; (try clear lt_k2); have lt_k2 := k2.lt
  replace rA := rA.step hx; replace rB := rB.step hx
  replace hb1 : Below w.heap.size w w4 := by (repeat (first | with_reducible exact Below.refl _ _ | with_reducible assumption | with_reducible refine Below.drew ?_ | with_reducible refine Below.drewN ?_ _ | with_reducible refine Below.alloc1 ?_ _ | with_reducible refine Below.setCell1 ?_ (by first | omega | (simp; done) | (simp; omega)) _ | with_reducible refine Below.step ?_ (by with_reducible assumption)))
  (try clear k0_0 k0_f0 k0_1 k0_f1 k0_2 k0_f2 lt_k0)
  clear hx hy rC
  have hne1 : w.heap.size + 1 ≠ w2.heap.size := by omega
  by_cases hc : cCheck st = 0
  case neg =>
    have bc : (cCheck st != 0) = true := by simpa using hc
    have hR := hide (show R = st by rw [HR.out, if_pos hc])
    clear HR hc k0 rA rB
    generalize cCheck st = cv at *
    go_wp2_with (first | (refine wpList_load_row rfl 30 _ rfl _ rfl _ _ (0, 0) _ k2 Try.underlying30 rfl (by kernel_rfl) ?_) | (refine wpList_store_row rfl 30 _ _ rfl _ (csC A' B' C' a' b' c' st.ns.length st.hs.length st.ts.length).toArray rfl rfl _ _ k1 (by kernel_rfl) (by kernel_rfl) (by kernel_rfl) ?_))
    have r1 := k1.row (csC A' B' C' a' b' c' st.ns.length st.hs.length st.ts.length)
    refine bodyPost_ret (v := .agg (csC A' B' C' a' b' c' st.ns.length st.hs.length st.ts.length).toArray) (results_cell_row rfl _ _ _ _ _ (0, 0) _ rfl r1 Try.underlying30 rfl (by kernel_rfl)) rfl ⟨csV A' B' C' a' b' c' st.ns.length st.hs.length st.ts.length, rfl, ?_, setRow_below hb1 (by omega) _⟩
    rw [hR.out]; exact ⟨_, _, _, _, _, _, rfl, rwn_own (own_rowfar oA lt1 _) (by omega), rwn_own (own_rowfar oB lt1 _) (by omega), rwn_own (own_rowfar oC lt1 _) (by omega)⟩
  obtain ⟨⟨n1, hh1, hh2⟩, bn, bh, bt⟩ := check_bd hc
  obtain ⟨hG, hE⟩ := good_of hc
  have HG := hide hG
  have HE := hide hE
  have HR1 := hide (show R = if cIn list 0 ((st.hs.length : Int) - 1) = false then st else if st.hs.getD list.toNat (-1) = -1 then st else cPut (cCut st (st.hs.getD list.toNat (-1)).toNat) list.toNat (st.hs.getD list.toNat (-1)).toNat by rw [HR.out, if_neg (by simp [hc])])
  have bc : (cCheck st != 0) = false := by simpa using hc
  have HB := hide bh
  have HH2 := hide hh2
  clear HR bn bh bt hc hh2 hG hE
  generalize cCheck st = cv at *
  have k0_0 := k0.cell 0; have k0_f0 := k0.frozen 0; have k0_1 := k0.cell 1; have k0_f1 := k0.frozen 1; have k0_2 := k0.cell 2; have k0_f2 := k0.frozen 2; simp only [List.set_cons_zero, List.set_cons_succ, List.getElem?_cons_zero, List.getElem?_cons_succ] at k0_0 k0_1 k0_2; have lt_k0 := k0.lt
  have hI := fun W => chain_is_any A B C a b c st.ns.length st.hs.length st.ts.length list W (by unfold maxLen; omega)
  go_wp2_with (first | (refine wpList_load_row rfl 30 _ rfl _ rfl _ _ (0, 0) _ k2 Try.underlying30 rfl (by kernel_rfl) ?_))
  refine (hI _).mono ?_; rintro e w5 ⟨rfl, hx⟩
  replace k0 := k0.step hx; (try clear k0_0 k0_f0 k0_1 k0_f1 k0_2 k0_f2); have k0_0 := k0.cell 0; have k0_f0 := k0.frozen 0; have k0_1 := k0.cell 1; have k0_f1 := k0.frozen 1; have k0_2 := k0.cell 2; have k0_f2 := k0.frozen 2; simp only [List.set_cons_zero, List.set_cons_succ, List.getElem?_cons_zero, List.getElem?_cons_succ] at k0_0 k0_1 k0_2; (try clear lt_k0); have lt_k0 := k0.lt; replace k1 := k1.step hx; (try clear lt_k1); have lt_k1 := k1.lt; replace k2 := k2.step hx; (try clear lt_k2); have lt_k2 := k2.lt
  replace rA := rA.step hx; replace rB := rB.step hx
  replace oA := own_below oA hx (Nat.le_refl _)
  replace oB := own_below oB hx (Nat.le_refl _)
  replace oC := own_below oC hx (Nat.le_refl _)
  replace hb1 : Below w.heap.size w w5 := by (repeat (first | with_reducible exact Below.refl _ _ | with_reducible assumption | with_reducible refine Below.drew ?_ | with_reducible refine Below.drewN ?_ _ | with_reducible refine Below.alloc1 ?_ _ | with_reducible refine Below.setCell1 ?_ (by first | omega | (simp; done) | (simp; omega)) _ | with_reducible refine Below.step ?_ (by with_reducible assumption)))
  clear hx hI
  cases hv : cIn list 0 ((st.hs.length : Int) - 1)
  · have hR := hide (show R = st by rw [HR1.out, if_pos hv])
    (try clear k0_0 k0_f0 k0_1 k0_f1 k0_2 k0_f2 lt_k0)
    clear HR1 hv k0 rA rB
    go_wp2_with (first | (refine wpList_load_row rfl 30 _ rfl _ rfl _ _ (0, 0) _ k2 Try.underlying30 rfl (by kernel_rfl) ?_) | (refine wpList_store_row rfl 30 _ _ rfl _ (csC A' B' C' a' b' c' st.ns.length st.hs.length st.ts.length).toArray rfl rfl _ _ k1 (by kernel_rfl) (by kernel_rfl) (by kernel_rfl) ?_))
    have r1 := k1.row (csC A' B' C' a' b' c' st.ns.length st.hs.length st.ts.length)
    refine bodyPost_ret (v := .agg (csC A' B' C' a' b' c' st.ns.length st.hs.length st.ts.length).toArray) (results_cell_row rfl _ _ _ _ _ (0, 0) _ rfl r1 Try.underlying30 rfl (by kernel_rfl)) rfl ⟨csV A' B' C' a' b' c' st.ns.length st.hs.length st.ts.length, rfl, ?_, setRow_below hb1 (by omega) _⟩
    rw [hR.out]; exact ⟨_, _, _, _, _, _, rfl, rwn_own (own_rowfar oA lt1 _) (by omega), rwn_own (own_rowfar oB lt1 _) (by omega), rwn_own (own_rowfar oC lt1 _) (by omega)⟩
  have hb := cIn_t hv
  obtain ⟨i, rfl⟩ : ∃ i : Nat, list = (i : Int) := ⟨list.toNat, by omega⟩
  have hi : i < st.hs.length := by omega
  have hi2 : (i : Int) < (st.hs.length : Int) := by omega
  have HR2 := hide (show R = if st.hs[i] = -1 then st else cPut (cCut st st.hs[i].toNat) i st.hs[i].toNat by rw [HR1.out, if_neg (by simp [hv])]; simp [List.getD, hi])
  clear HR1 hv hb
  obtain ⟨bd, rfl, _, hcb⟩ := rB.at_ (k := i) (by simpa using hi)
  rw [ints_get st.hs i hi] at hcb
  have hbd := HB.out _ (List.getElem_mem hi)
  have HHd := hide (show st.hs[i] = hd (nth (lists st) i) by
    have h5 := hs_at (n := st.ns.length) (L := lists st) (i := i) (by rw [lists_len]; exact hi)
    rw [← HE.out, List.getElem?_eq_getElem hi] at h5
    injection h5)
  generalize st.hs[i] = x at *
  by_cases hl : x = -1
  · have hR := hide (show R = st by rw [HR2.out, if_pos hl])
    have bl : (x == -1) = true := by simpa using hl
    clear HR2 hl
    go_wp2_with (first | (refine wpList_load_row rfl 30 _ rfl _ rfl _ _ (0, 0) _ k2 Try.underlying30 rfl (by kernel_rfl) ?_) | (refine wpList_store_row rfl 30 _ _ rfl _ (csC A' B' C' a' b' c' st.ns.length st.hs.length st.ts.length).toArray rfl rfl _ _ k1 (by kernel_rfl) (by kernel_rfl) (by kernel_rfl) ?_))
    have r1 := k1.row (csC A' B' C' a' b' c' st.ns.length st.hs.length st.ts.length)
    refine bodyPost_ret (v := .agg (csC A' B' C' a' b' c' st.ns.length st.hs.length st.ts.length).toArray) (results_cell_row rfl _ _ _ _ _ (0, 0) _ rfl r1 Try.underlying30 rfl (by kernel_rfl)) rfl ⟨csV A' B' C' a' b' c' st.ns.length st.hs.length st.ts.length, rfl, ?_, setRow_below hb1 (by omega) _⟩
    rw [hR.out]; exact ⟨_, _, _, _, _, _, rfl, rwn_own (own_rowfar oA lt1 _) (by omega), rwn_own (own_rowfar oB lt1 _) (by omega), rwn_own (own_rowfar oC lt1 _) (by omega)⟩
  obtain ⟨f, rfl⟩ : ∃ f : Nat, x = (f : Int) := ⟨x.toNat, by omega⟩
  have hR := hide (show R = cPut (cCut st f) i f by rw [HR2.out, if_neg hl, Int.toNat_natCast])
  have bl : ((f : Int) == -1) = false := by simp
  have hil : i < (lists st).length := by rw [lists_len]; exact hi
  obtain ⟨m, hm⟩ : ∃ m, nth (lists st) i = f :: m := by
    have h6 := HHd.out
    cases hn : nth (lists st) i with
    | nil => rw [hn] at h6; simp only [hd] at h6; omega
    | cons y m =>
      rw [hn] at h6
      have : f = y := by simp only [hd] at h6; omega
      exact ⟨m, by rw [this]⟩
  obtain ⟨m1, m2, m3, m4, _, m6⟩ := mv_cut HG.out.vl hil hm
  rw [← HE.out] at m2 m3
  have M2 := hide m2
  have b2 := hd_bd m6
  have HT2 := hide (show ∀ x ∈ (cCut st f).ts, -1 ≤ x ∧ x ≤ (st.ns.length : Int) - 1 by rw [m3]; exact ts_bd m4)
  generalize hd m = nx at *
  clear HR2 HHd HG HE m2 m3 m4 m6 hm hil hl
  obtain ⟨gA, pA, rfl, bA, cA, kA⟩ := own_bk oA (by omega)
  obtain ⟨gB, pB, rfl, bB, cB, kB⟩ := own_bk oB (by omega)
  obtain ⟨gC, pC, rfl, bC, cC, kC⟩ := own_bk oC (by have := HH2.out; omega)
  have o3 : Own3 w5 w1.heap.size gA gB gC pA pB pC st := ⟨kA, kB, kC, bA, bB, bC, hne _ _ rfl rfl⟩
  have ltA : gA < w2.heap.size := bkA _ rfl
  have ltB : gB < w2.heap.size := bkB _ rfl
  have ltC : gC < w2.heap.size := bkC _ rfl
  clear kA kB kC cA cB cC hne bkA bkB oA oB oC
  go_wp2_with (first | (refine wpList_load_row rfl 30 _ rfl _ rfl _ _ (0, 0) _ k2 Try.underlying30 rfl (by kernel_rfl) ?_))
  refine (chain_cut_any w1.heap.size gA gB gC a' b' c' st.ns.length st.hs.length st.ts.length pA pB pC st f i nx (-1) _ rfl rfl rfl h1 h2 h3 m1 M2.out hi (by rw [HH2.out]; exact hi) b2 (by omega) o3).mono ?_; rintro e w7 ⟨rfl, o4, hg⟩
  (try clear k0_0 k0_f0 k0_1 k0_f1 k0_2 k0_f2 lt_k0)
  clear k0 hcb
  replace k1 := k1.gr3 hg (by omega) (by omega) (by omega)
  replace k2 := k2.gr3 hg (by omega) (by omega) (by omega)
  have lt_k1 := k1.lt
  have lt_k2 := k2.lt
  go_wp2_with (first | (refine wpList_load_row rfl 30 _ rfl _ rfl _ _ (0, 0) _ k2 Try.underlying30 rfl (by kernel_rfl) ?_))
  refine (chain_put_any w1.heap.size gA gB gC a' b' c' st.ns.length st.hs.length st.ts.length pA pB pC (cCut st f) i f _ (cCut_len st f).1 (cCut_len st f).2.1 (cCut_len st f).2.2 h1 h2 h3 m1 hi (by rw [HH2.out]; exact hi) HT2.out o4).mono ?_; rintro e w8 ⟨rfl, o5, hg2⟩
  replace hb1 : Below w.heap.size w w8 := hb1.trans ((hg.trans hg2).below (by omega) (by omega) (by omega) (by omega))
  replace k1 := k1.gr3 hg2 (by omega) (by omega) (by omega)
  replace k2 := k2.gr3 hg2 (by omega) (by omega) (by omega)
  have lt_k1 := k1.lt
  have lt_k2 := k2.lt
  clear hg hg2 o4 o3
  go_wp2_with (first | (refine wpList_load_row rfl 30 _ rfl _ rfl _ _ (0, 0) _ k2 Try.underlying30 rfl (by kernel_rfl) ?_) | (refine wpList_store_row rfl 30 _ _ rfl _ (csC (some ⟨gA, 0, none⟩) (some ⟨gB, 0, none⟩) (some ⟨gC, 0, none⟩) a' b' c' st.ns.length st.hs.length st.ts.length).toArray rfl rfl _ _ k1 (by kernel_rfl) (by kernel_rfl) (by kernel_rfl) ?_))
  have r1 := k1.row (csC (some ⟨gA, 0, none⟩) (some ⟨gB, 0, none⟩) (some ⟨gC, 0, none⟩) a' b' c' st.ns.length st.hs.length st.ts.length)
  refine bodyPost_ret (v := .agg (csC (some ⟨gA, 0, none⟩) (some ⟨gB, 0, none⟩) (some ⟨gC, 0, none⟩) a' b' c' st.ns.length st.hs.length st.ts.length).toArray) (results_cell_row rfl _ _ _ _ _ (0, 0) _ rfl r1 Try.underlying30 rfl (by kernel_rfl)) rfl ⟨csV (some ⟨gA, 0, none⟩) (some ⟨gB, 0, none⟩) (some ⟨gC, 0, none⟩) a' b' c' st.ns.length st.hs.length st.ts.length, rfl, ?_, setRow_below hb1 (by omega) _⟩
  rw [hR.out]
  have := (o5.row lt1 (csC (some ⟨gA, 0, none⟩) (some ⟨gB, 0, none⟩) (some ⟨gC, 0, none⟩) a' b' c' st.ns.length st.hs.length st.ts.length).toArray).new_ (k := w.heap.size) (a := a') (b := b') (c := c') (by omega)
  rw [(cPut_len _ i f).1, (cPut_len _ i f).2.1, (cPut_len _ i f).2.2, (cCut_len st f).1, (cCut_len st f).2.1, (cCut_len st f).2.2] at this
  exact this
end Go.Proofs.Ythicpjfdljgfpaa
