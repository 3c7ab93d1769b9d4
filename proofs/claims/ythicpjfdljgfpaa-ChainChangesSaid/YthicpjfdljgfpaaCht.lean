/- Package chain: Unlink. -/
import Derived.Test.YthicpjfdljgfpaaChs
namespace Go.Proofs.Ythicpjfdljgfpaa
open Go.RowKit Go.Sort
set_option linter.unusedSimpArgs false
set_option linter.unusedVariables false

def cUnlink (st : Ch) (at_ : Int) : Ch × Int :=
  if cCheck st ≠ 0 then (st, cCheck st) else if cIn at_ 0 ((st.ns.length : Int) - 1) = false then (st, 8) else if (st.ns.getD at_.toNat nd0).l = -1 then (st, 6) else (cCut st at_.toNat, 0)
set_option maxRecDepth 100000 in
set_option maxHeartbeats 8000000 in
theorem chain_Unlink_any (V : Value) (st : Ch) (at_ : Int) (w : World) (h1 : st.ns.length ≤ 1000) (h2 : st.hs.length ≤ 1000) (h3 : st.ts.length ≤ 1000) (hV : CsAt w V st) :
    Calls Try.prog 12 #[V, .int .i64 at_] w fun e w' => ∃ V', e = .returned (.tuple #[V', .int .i64 (cUnlink st at_).2]) ∧ CsNew w.heap.size w' V' (cUnlink st at_).1 ∧ Below w.heap.size w w' := by
  obtain ⟨A, B, C, a, b, c, rfl, rA, rB, rC⟩ := hV
  have HR := hide (show cUnlink st at_ = if cCheck st ≠ 0 then (st, cCheck st) else if cIn at_ 0 ((st.ns.length : Int) - 1) = false then (st, 8) else if (st.ns.getD at_.toNat nd0).l = -1 then (st, 6) else (cCut st at_.toNat, 0) from rfl)
  generalize cUnlink st at_ = R at *
  go_enter Try.func12, Try.ntmps12
  go_wp2_with fail
  generalize hV : World.alloc (World.alloc w _) _ = w1
  have hb1 : Below w.heap.size w w1 := by subst hV; (repeat (first | with_reducible exact Below.refl _ _ | with_reducible assumption | with_reducible refine Below.drew ?_ | with_reducible refine Below.drewN ?_ _ | with_reducible refine Below.alloc1 ?_ _ | with_reducible refine Below.setCell1 ?_ (by first | omega | (simp; done) | (simp; omega)) _ | with_reducible refine Below.step ?_ (by with_reducible assumption)))
  have k0 : Bk w1 w.heap.size 30 (csC A B C a b c st.ns.length st.hs.length st.ts.length) := by subst hV; (repeat (first | with_reducible exact Bk.new' _ _ _ _ (by simp; done) | with_reducible assumption | with_reducible refine Bk.alloc ?_ _ | with_reducible refine Bk.drew ?_ | with_reducible refine Bk.drewN ?_ _ | with_reducible refine Bk.step ?_ (by with_reducible assumption) | with_reducible refine Bk.far ?_ (by first | omega | (simp; done) | (simp; omega)) _))
  have k1 : Bk w1 (w.heap.size + 1) 30 (csC none none none 0 0 0 0 0 0) := by subst hV; exact Bk.new' (World.alloc w _) 30 (csC none none none 0 0 0 0 0 0) _ (by simp)
  clear hV
  have lt1 := k1.lt
  replace rA := rA.step hb1; replace rB := rB.step hb1; replace rC := rC.step hb1
  refine (chain_own_ap A B C a b c st _ h1 h2 h3 rA rB rC).mono ?_; rintro e w2 ⟨A', B', C', a', b', c', rfl, oA, oB, oC, hne, hy⟩
  have k0_0 := k0.cell 0; have k0_f0 := k0.frozen 0; have k0_1 := k0.cell 1; have k0_f1 := k0.frozen 1; have k0_2 := k0.cell 2; have k0_f2 := k0.frozen 2; simp only [List.set_cons_zero, List.set_cons_succ, List.getElem?_cons_zero, List.getElem?_cons_succ] at k0_0 k0_1 k0_2; have lt_k0 := k0.lt
  replace k0 := k0.step hy; (try clear k0_0 k0_f0 k0_1 k0_f1 k0_2 k0_f2); have k0_0 := k0.cell 0; have k0_f0 := k0.frozen 0; have k0_1 := k0.cell 1; have k0_f1 := k0.frozen 1; have k0_2 := k0.cell 2; have k0_f2 := k0.frozen 2; simp only [List.set_cons_zero, List.set_cons_succ, List.getElem?_cons_zero, List.getElem?_cons_succ] at k0_0 k0_1 k0_2; (try clear lt_k0); have lt_k0 := k0.lt; replace k1 := k1.step hy; (try clear lt_k1); have lt_k1 := k1.lt
  replace rA := rA.step hy; replace rB := rB.step hy; replace rC := rC.step hy
  replace hb1 : Below w.heap.size w w2 := by (repeat (first | with_reducible exact Below.refl _ _ | with_reducible assumption | with_reducible refine Below.drew ?_ | with_reducible refine Below.drewN ?_ _ | with_reducible refine Below.alloc1 ?_ _ | with_reducible refine Below.setCell1 ?_ (by first | omega | (simp; done) | (simp; omega)) _ | with_reducible refine Below.step ?_ (by with_reducible assumption)))
  have hsz := hy.size
  have bkA : ∀ ad, A' = some ad → ad.block < w2.heap.size := fun ad e => (own_blk oA ad e).2
  have bkB : ∀ ad, B' = some ad → ad.block < w2.heap.size := fun ad e => (own_blk oB ad e).2
  have bkC : ∀ ad, C' = some ad → ad.block < w2.heap.size := fun ad e => (own_blk oC ad e).2
  clear hy
  go_wp2_with fail
  generalize hV : World.alloc w2 _ = w3
  have hy : Below w2.heap.size w2 w3 := by subst hV; (repeat (first | with_reducible exact Below.refl _ _ | with_reducible assumption | with_reducible refine Below.drew ?_ | with_reducible refine Below.drewN ?_ _ | with_reducible refine Below.alloc1 ?_ _ | with_reducible refine Below.setCell1 ?_ (by first | omega | (simp; done) | (simp; omega)) _ | with_reducible refine Below.step ?_ (by with_reducible assumption)))
  have k2 : Bk w3 w2.heap.size 30 (csC A' B' C' a' b' c' st.ns.length st.hs.length st.ts.length) := by subst hV; (repeat (first | with_reducible exact Bk.new' _ _ _ _ (by simp; done) | with_reducible assumption | with_reducible refine Bk.alloc ?_ _ | with_reducible refine Bk.drew ?_ | with_reducible refine Bk.drewN ?_ _ | with_reducible refine Bk.step ?_ (by with_reducible assumption) | with_reducible refine Bk.far ?_ (by first | omega | (simp; done) | (simp; omega)) _))
  clear hV
  replace k0 := k0.step hy; (try clear k0_0 k0_f0 k0_1 k0_f1 k0_2 k0_f2); have k0_0 := k0.cell 0; have k0_f0 := k0.frozen 0; have k0_1 := k0.cell 1; have k0_f1 := k0.frozen 1; have k0_2 := k0.cell 2; have k0_f2 := k0.frozen 2; simp only [List.set_cons_zero, List.set_cons_succ, List.getElem?_cons_zero, List.getElem?_cons_succ] at k0_0 k0_1 k0_2; (try clear lt_k0); have lt_k0 := k0.lt; replace k1 := k1.step hy; (try clear lt_k1); have lt_k1 := k1.lt
  replace rA := rA.step hy; replace rB := rB.step hy; replace rC := rC.step hy
  replace hb1 : Below w.heap.size w w3 := by (repeat (first | with_reducible exact Below.refl _ _ | with_reducible assumption | with_reducible refine Below.drew ?_ | with_reducible refine Below.drewN ?_ _ | with_reducible refine Below.alloc1 ?_ _ | with_reducible refine Below.setCell1 ?_ (by first | omega | (simp; done) | (simp; omega)) _ | with_reducible refine Below.step ?_ (by with_reducible assumption)))
  have lt2 := k2.lt
  refine (chain_Check_any A B C a b c st _ h1 h2 h3 rA rB rC).mono ?_; rintro e w4 ⟨rfl, hx⟩
  replace oA := own_below (own_below oA hy (Nat.le_refl _)) hx (Nat.le_refl _)
  replace oB := own_below (own_below oB hy (Nat.le_refl _)) hx (Nat.le_refl _)
  replace oC := own_below (own_below oC hy (Nat.le_refl _)) hx (Nat.le_refl _)
  replace k0 := k0.step hx; (try clear k0_0 k0_f0 k0_1 k0_f1 k0_2 k0_f2); have k0_0 := k0.cell 0; have k0_f0 := k0.frozen 0; have k0_1 := k0.cell 1; have k0_f1 := k0.frozen 1; have k0_2 := k0.cell 2; have k0_f2 := k0.frozen 2; simp only [List.set_cons_zero, List.set_cons_succ, List.getElem?_cons_zero, List.getElem?_cons_succ] at k0_0 k0_1 k0_2; (try clear lt_k0); have lt_k0 := k0.lt; replace k1 := k1.step hx; (try clear lt_k1); have lt_k1 := k1.lt; replace k2 := k2.step hx; (try clear lt_k2); have lt_k2 := k2.lt
  replace rA := rA.step hx; replace rB := rB.step hx
  replace hb1 : Below w.heap.size w w4 := by (repeat (first | with_reducible exact Below.refl _ _ | with_reducible assumption | with_reducible refine Below.drew ?_ | with_reducible refine Below.drewN ?_ _ | with_reducible refine Below.alloc1 ?_ _ | with_reducible refine Below.setCell1 ?_ (by first | omega | (simp; done) | (simp; omega)) _ | with_reducible refine Below.step ?_ (by with_reducible assumption)))
  (try clear k0_0 k0_f0 k0_1 k0_f1 k0_2 k0_f2 lt_k0)
  clear hx hy rC
  have hne1 : w.heap.size + 1 ≠ w2.heap.size := by omega
  by_cases hc : cCheck st = 0
  case neg =>
    have bc : (cCheck st != 0) = true := by simpa using hc
    have hR := hide (show R = (st, cCheck st) by rw [HR.out, if_pos hc])
    clear HR hc k0 rA rB
    generalize cCheck st = cv at *
    go_wp2_with (first | (refine wpList_load_row rfl 30 _ rfl _ rfl _ _ (0, 0) _ k2 Try.underlying30 rfl (by kernel_rfl) ?_) | (refine wpList_store_row rfl 30 _ _ rfl _ (csC A' B' C' a' b' c' st.ns.length st.hs.length st.ts.length).toArray rfl rfl _ _ k1 (by kernel_rfl) (by kernel_rfl) (by kernel_rfl) ?_))
    have r1 := k1.row (csC A' B' C' a' b' c' st.ns.length st.hs.length st.ts.length)
    refine bodyPost_ret (results_row_tmp rfl _ _ (w.heap.size + 1) _ _ _ rfl r1 Try.underlying30 rfl (by kernel_rfl)) rfl ⟨csV A' B' C' a' b' c' st.ns.length st.hs.length st.ts.length, ?_, ?_, setRow_below hb1 (by omega) _⟩
    · rw [hR.out]; rfl
    · rw [hR.out]; exact ⟨_, _, _, _, _, _, rfl, rwn_own (own_rowfar oA lt1 _) (by omega), rwn_own (own_rowfar oB lt1 _) (by omega), rwn_own (own_rowfar oC lt1 _) (by omega)⟩
  obtain ⟨⟨n1, hh1, hh2⟩, bn, bh, bt⟩ := check_bd hc
  have HR1 := hide (show R = if cIn at_ 0 ((st.ns.length : Int) - 1) = false then (st, 8) else if (st.ns.getD at_.toNat nd0).l = -1 then (st, 6) else (cCut st at_.toNat, 0) by rw [HR.out, if_neg (by simp [hc])])
  have bc : (cCheck st != 0) = false := by simpa using hc
  have HN := hide bn
  have HH2 := hide hh2
  clear HR bn bh bt hc hh2
  generalize cCheck st = cv at *
  have k0_0 := k0.cell 0; have k0_f0 := k0.frozen 0; have k0_1 := k0.cell 1; have k0_f1 := k0.frozen 1; have k0_2 := k0.cell 2; have k0_f2 := k0.frozen 2; simp only [List.set_cons_zero, List.set_cons_succ, List.getElem?_cons_zero, List.getElem?_cons_succ] at k0_0 k0_1 k0_2; have lt_k0 := k0.lt
  have hA := fun W => chain_has_any A B C a b c st.ns.length st.hs.length st.ts.length at_ W (by unfold maxLen; omega)
  go_wp2_with (first | (refine wpList_load_row rfl 30 _ rfl _ rfl _ _ (0, 0) _ k2 Try.underlying30 rfl (by kernel_rfl) ?_))
  refine (hA _).mono ?_; rintro e w6 ⟨rfl, hx⟩
  replace k0 := k0.step hx; (try clear k0_0 k0_f0 k0_1 k0_f1 k0_2 k0_f2); have k0_0 := k0.cell 0; have k0_f0 := k0.frozen 0; have k0_1 := k0.cell 1; have k0_f1 := k0.frozen 1; have k0_2 := k0.cell 2; have k0_f2 := k0.frozen 2; simp only [List.set_cons_zero, List.set_cons_succ, List.getElem?_cons_zero, List.getElem?_cons_succ] at k0_0 k0_1 k0_2; (try clear lt_k0); have lt_k0 := k0.lt; replace k1 := k1.step hx; (try clear lt_k1); have lt_k1 := k1.lt; replace k2 := k2.step hx; (try clear lt_k2); have lt_k2 := k2.lt
  replace rA := rA.step hx; replace rB := rB.step hx
  replace oA := own_below oA hx (Nat.le_refl _)
  replace oB := own_below oB hx (Nat.le_refl _)
  replace oC := own_below oC hx (Nat.le_refl _)
  replace hb1 : Below w.heap.size w w6 := by (repeat (first | with_reducible exact Below.refl _ _ | with_reducible assumption | with_reducible refine Below.drew ?_ | with_reducible refine Below.drewN ?_ _ | with_reducible refine Below.alloc1 ?_ _ | with_reducible refine Below.setCell1 ?_ (by first | omega | (simp; done) | (simp; omega)) _ | with_reducible refine Below.step ?_ (by with_reducible assumption)))
  clear hx hA
  cases hv : cIn at_ 0 ((st.ns.length : Int) - 1)
  · have hR := hide (show R = (st, 8) by rw [HR1.out, if_pos hv])
    (try clear k0_0 k0_f0 k0_1 k0_f1 k0_2 k0_f2 lt_k0)
    clear HR1 hv k0 rA rB
    go_wp2_with (first | (refine wpList_load_row rfl 30 _ rfl _ rfl _ _ (0, 0) _ k2 Try.underlying30 rfl (by kernel_rfl) ?_) | (refine wpList_store_row rfl 30 _ _ rfl _ (csC A' B' C' a' b' c' st.ns.length st.hs.length st.ts.length).toArray rfl rfl _ _ k1 (by kernel_rfl) (by kernel_rfl) (by kernel_rfl) ?_))
    have r1 := k1.row (csC A' B' C' a' b' c' st.ns.length st.hs.length st.ts.length)
    refine bodyPost_ret (results_row_tmp rfl _ _ (w.heap.size + 1) _ _ _ rfl r1 Try.underlying30 rfl (by kernel_rfl)) rfl ⟨csV A' B' C' a' b' c' st.ns.length st.hs.length st.ts.length, ?_, ?_, setRow_below hb1 (by omega) _⟩
    · rw [hR.out]; rfl
    · rw [hR.out]; exact ⟨_, _, _, _, _, _, rfl, rwn_own (own_rowfar oA lt1 _) (by omega), rwn_own (own_rowfar oB lt1 _) (by omega), rwn_own (own_rowfar oC lt1 _) (by omega)⟩
  have hb := cIn_t hv
  obtain ⟨q, rfl⟩ : ∃ q : Nat, at_ = (q : Int) := ⟨at_.toNat, by omega⟩
  have hq : q < st.ns.length := by omega
  have hqi : (q : Int) < (st.ns.length : Int) := by omega
  have HR3 := hide (show R = if st.ns[q].l = -1 then (st, 6) else (cCut st q, 0) by rw [HR1.out, if_neg (by simp [hv])]; simp [List.getD, hq])
  clear HR1 hv hb
  obtain ⟨ad, rfl, hadb, c1, c2, c3⟩ := rA.nd hq
  have HX := hide (show st.ns[q]? = some ⟨st.ns[q].l, st.ns[q].n, st.ns[q].p⟩ by simp [hq])
  obtain ⟨b1, b2, b3⟩ := HN.out _ (List.getElem_mem hq)
  generalize st.ns[q] = x at *
  by_cases hl : x.l = -1
  · have hR := hide (show R = (st, 6) by rw [HR3.out, if_pos hl])
    have bl : (x.l == -1) = true := by simpa using hl
    clear HR3 HX hl
    go_wp2_with (first | (refine wpList_load_row rfl 30 _ rfl _ rfl _ _ (0, 0) _ k2 Try.underlying30 rfl (by kernel_rfl) ?_) | (refine wpList_store_row rfl 30 _ _ rfl _ (csC A' B' C' a' b' c' st.ns.length st.hs.length st.ts.length).toArray rfl rfl _ _ k1 (by kernel_rfl) (by kernel_rfl) (by kernel_rfl) ?_))
    have r1 := k1.row (csC A' B' C' a' b' c' st.ns.length st.hs.length st.ts.length)
    refine bodyPost_ret (results_row_tmp rfl _ _ (w.heap.size + 1) _ _ _ rfl r1 Try.underlying30 rfl (by kernel_rfl)) rfl ⟨csV A' B' C' a' b' c' st.ns.length st.hs.length st.ts.length, ?_, ?_, setRow_below hb1 (by omega) _⟩
    · rw [hR.out]; rfl
    · rw [hR.out]; exact ⟨_, _, _, _, _, _, rfl, rwn_own (own_rowfar oA lt1 _) (by omega), rwn_own (own_rowfar oB lt1 _) (by omega), rwn_own (own_rowfar oC lt1 _) (by omega)⟩
  have hR := hide (show R = (cCut st q, 0) by rw [HR3.out, if_neg hl])
  have bl : (x.l == -1) = false := by simpa using hl
  obtain ⟨l, hxl⟩ : ∃ l : Nat, x.l = (l : Int) := ⟨x.l.toNat, by omega⟩
  rw [hxl] at c1 bl HX
  have hlh : l < st.hs.length := by omega
  clear HR3 hl c2 c3 hadb b1 hxl
  obtain ⟨gA, pA, rfl, bA, cA, kA⟩ := own_bk oA (by omega)
  obtain ⟨gB, pB, rfl, bB, cB, kB⟩ := own_bk oB (by omega)
  obtain ⟨gC, pC, rfl, bC, cC, kC⟩ := own_bk oC (by have := HH2.out; omega)
  have o3 : Own3 w6 w1.heap.size gA gB gC pA pB pC st := ⟨kA, kB, kC, bA, bB, bC, hne _ _ rfl rfl⟩
  have ltA : gA < w2.heap.size := bkA _ rfl
  have ltB : gB < w2.heap.size := bkB _ rfl
  have ltC : gC < w2.heap.size := bkC _ rfl
  clear kA kB kC cA cB cC hne bkA bkB bkC oA oB oC
  go_wp2_with (first | (refine wpList_load_row rfl 30 _ rfl _ rfl _ _ (0, 0) _ k2 Try.underlying30 rfl (by kernel_rfl) ?_))
  refine (chain_cut_any w1.heap.size gA gB gC a' b' c' st.ns.length st.hs.length st.ts.length pA pB pC st q l x.n x.p _ rfl rfl rfl h1 h2 h3 hq HX.out hlh (by rw [HH2.out]; exact hlh) b2 b3 o3).mono ?_; rintro e w7 ⟨rfl, o4, hg⟩
  (try clear k0_0 k0_f0 k0_1 k0_f1 k0_2 k0_f2 lt_k0)
  clear k0 c1
  replace k1 := k1.gr3 hg (by omega) (by omega) (by omega)
  replace k2 := k2.gr3 hg (by omega) (by omega) (by omega)
  replace hb1 : Below w.heap.size w w7 := hb1.trans (hg.below (by omega) (by omega) (by omega) (by omega))
  have lt_k1 := k1.lt
  have lt_k2 := k2.lt
  go_wp2_with (first | (refine wpList_load_row rfl 30 _ rfl _ rfl _ _ (0, 0) _ k2 Try.underlying30 rfl (by kernel_rfl) ?_) | (refine wpList_store_row rfl 30 _ _ rfl _ (csC (some ⟨gA, 0, none⟩) (some ⟨gB, 0, none⟩) (some ⟨gC, 0, none⟩) a' b' c' st.ns.length st.hs.length st.ts.length).toArray rfl rfl _ _ k1 (by kernel_rfl) (by kernel_rfl) (by kernel_rfl) ?_))
  have r1 := k1.row (csC (some ⟨gA, 0, none⟩) (some ⟨gB, 0, none⟩) (some ⟨gC, 0, none⟩) a' b' c' st.ns.length st.hs.length st.ts.length)
  refine bodyPost_ret (results_row_tmp rfl _ _ (w.heap.size + 1) _ _ _ rfl r1 Try.underlying30 rfl (by kernel_rfl)) rfl ⟨csV (some ⟨gA, 0, none⟩) (some ⟨gB, 0, none⟩) (some ⟨gC, 0, none⟩) a' b' c' st.ns.length st.hs.length st.ts.length, ?_, ?_, setRow_below hb1 (by omega) _⟩
  · rw [hR.out]; rfl
  · rw [hR.out]
    have := (o4.row lt1 (csC (some ⟨gA, 0, none⟩) (some ⟨gB, 0, none⟩) (some ⟨gC, 0, none⟩) a' b' c' st.ns.length st.hs.length st.ts.length).toArray).new_ (k := w.heap.size) (a := a') (b := b') (c := c') (by omega)
    rw [(cCut_len st q).1, (cCut_len st q).2.1, (cCut_len st q).2.2] at this
    exact this
end Go.Proofs.Ythicpjfdljgfpaa
