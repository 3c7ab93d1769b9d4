/- Package chain: cut (in place, in three rows of one's own). -/
import Derived.Test.YthicpjfdljgfpaaChp
namespace Go.Proofs.Ythicpjfdljgfpaa
open Go.RowKit Go.Sort
set_option linter.unusedSimpArgs false
set_option linter.unusedVariables false

set_option maxRecDepth 100000 in
set_option maxHeartbeats 4000000 in
theorem chain_cut_any (base gA gB gC a b c n h t : Nat) (pA pB pC : List Value) (st : Ch) (q l : Nat) (nx pv : Int) (w : World) (h1 : st.ns.length = n) (h2 : st.hs.length = h) (h3 : st.ts.length = t) (hn : n ≤ 1000) (hh : h ≤ 1000) (ht : t ≤ 1000) (hq : q < n) (hx : st.ns[q]? = some ⟨l, nx, pv⟩) (hl : l < h) (hl' : l < t)
    (hnx : -1 ≤ nx ∧ nx ≤ (n : Int) - 1) (hpv : -1 ≤ pv ∧ pv ≤ (n : Int) - 1) (o : Own3 w base gA gB gC pA pB pC st) :
    Calls Try.prog 42 #[csV (some ⟨gA, 0, none⟩) (some ⟨gB, 0, none⟩) (some ⟨gC, 0, none⟩) a b c n h t, .int .i64 q] w fun e w' => e = .returned (.tuple #[]) ∧ Own3 w' base gA gB gC pA pB pC (cCut st q) ∧ Gr3 gA gB gC w w' := by
  have HQ := hide (show q < st.ns.length by omega)
  have HI := hide (show l < st.hs.length by omega)
  have HT := hide (show l < st.ts.length by omega)
  have HP := hide (show cCut st q = ⟨(upd3 (upd3 st.ns pv (fun y => { y with n := nx })) nx (fun y => { y with p := pv })).set q ⟨-1, -1, -1⟩, if pv = -1 then st.hs.set l nx else st.hs, if nx = -1 then st.ts.set l pv else st.ts⟩ by unfold cCut; simp [List.getD, hx])
  have HL := hide h1
  have hxq : st.ns[q]'HQ.out = ⟨l, nx, pv⟩ := by
    have := List.getElem?_eq_getElem HQ.out
    rw [hx] at this; injection this with this; exact this.symm
  obtain ⟨c1, c2, c3⟩ := o.A.nd HQ.out
  rw [hxq] at c1 c2 c3
  dsimp only at c1 c2 c3
  have hA := o.A.lt
  have hB := o.B.lt
  have hC := o.C.lt
  clear h1 h2 h3 hx hxq
  have hqn : (q : Int) < (n : Int) := by omega
  have hlh : (l : Int) < (h : Int) := by omega
  have hlt : (l : Int) < (t : Int) := by omega
  go_enter Try.func42, Try.ntmps42
  go_upto_region 2 with fail
  generalize hV : World.alloc (World.alloc w _) _ = w1
  have hb1 : Below w.heap.size w w1 := by subst hV; (repeat (first | with_reducible exact Below.refl _ _ | with_reducible assumption | with_reducible refine Below.drew ?_ | with_reducible refine Below.drewN ?_ _ | with_reducible refine Below.alloc1 ?_ _ | with_reducible refine Below.setCell1 ?_ (by first | omega | (simp; done) | (simp; omega)) _ | with_reducible refine Below.step ?_ (by with_reducible assumption)))
  have k0 : Bk w1 w.heap.size 30 (csC (some ⟨gA, 0, none⟩) (some ⟨gB, 0, none⟩) (some ⟨gC, 0, none⟩) a b c n h t) := by subst hV; (repeat (first | with_reducible exact Bk.new' _ _ _ _ (by simp; done) | with_reducible assumption | with_reducible refine Bk.alloc ?_ _ | with_reducible refine Bk.drew ?_ | with_reducible refine Bk.drewN ?_ _ | with_reducible refine Bk.step ?_ (by with_reducible assumption) | with_reducible refine Bk.far ?_ (by first | omega | (simp; done) | (simp; omega)) _))
  have k1 : Bk w1 (w.heap.size + 1) 63 [.int .i64 l, .int .i64 nx, .int .i64 pv] := by subst hV; exact Bk.new' (World.alloc w _) 63 _ _ (by simp)
  clear hV c1 c2 c3
  have g1 : Gr3 gA gB gC w w1 := .of hb1 (Nat.le_refl _)
  have o1 := o.gr hb1
  clear o hb1
  by_cases hp : pv = -1
  · subst hp
    have k0_0 := k0.cell 0; have k0_f0 := k0.frozen 0; have k0_1 := k0.cell 1; have k0_f1 := k0.frozen 1; have k0_2 := k0.cell 2; have k0_f2 := k0.frozen 2; simp only [List.set_cons_zero, List.set_cons_succ, List.getElem?_cons_zero, List.getElem?_cons_succ] at k0_0 k0_1 k0_2; have lt_k0 := k0.lt; have k1_0 := k1.cell 0; have k1_f0 := k1.frozen 0; have k1_1 := k1.cell 1; have k1_f1 := k1.frozen 1; have k1_2 := k1.cell 2; have k1_f2 := k1.frozen 2; simp only [List.set_cons_zero, List.set_cons_succ, List.getElem?_cons_zero, List.getElem?_cons_succ] at k1_0 k1_1 k1_2; have lt_k1 := k1.lt
    have cB := o1.B.intAt HI.out
    have fB := o1.B.frozen l
    go_upto_region 5 with fail
    have o2 := o1.setH HI.out nx
    clear cB fB
    generalize hV : World.setCell w1 _ _ = w2
    rw [hV] at o2
    have g2 : Gr3 gA gB gC w w2 := by subst hV; exact g1.set1 (.inr (.inl rfl)) _
    have k0' : Bk w2 w.heap.size 30 (csC (some ⟨gA, 0, none⟩) (some ⟨gB, 0, none⟩) (some ⟨gC, 0, none⟩) a b c n h t) := by subst hV; exact k0.far (by dsimp only; omega) _
    have k1' : Bk w2 (w.heap.size + 1) 63 [.int .i64 l, .int .i64 nx, .int .i64 (-1)] := by subst hV; exact k1.far (by dsimp only; omega) _
    (try clear k0_0 k0_f0 k0_1 k0_f1 k0_2 k0_f2 lt_k0) ; (try clear k1_0 k1_f0 k1_1 k1_f1 k1_2 k1_f2 lt_k1)
    clear hV o1 g1 k0 k1
    have k0 := k0'
    have k1 := k1'
    clear k0' k1'
    have HN1 := hide (show upd3 st.ns (-1) (fun y => { y with n := nx }) = st.ns from rfl)
    have HH1 := hide (show st.hs.set l nx = if (-1 : Int) = -1 then st.hs.set l nx else st.hs from rfl)
    by_cases hx : nx = -1
    · subst hx
      have k0_0 := k0.cell 0; have k0_f0 := k0.frozen 0; have k0_1 := k0.cell 1; have k0_f1 := k0.frozen 1; have k0_2 := k0.cell 2; have k0_f2 := k0.frozen 2; simp only [List.set_cons_zero, List.set_cons_succ, List.getElem?_cons_zero, List.getElem?_cons_succ] at k0_0 k0_1 k0_2; have lt_k0 := k0.lt; have k1_0 := k1.cell 0; have k1_f0 := k1.frozen 0; have k1_1 := k1.cell 1; have k1_f1 := k1.frozen 1; have k1_2 := k1.cell 2; have k1_f2 := k1.frozen 2; simp only [List.set_cons_zero, List.set_cons_succ, List.getElem?_cons_zero, List.getElem?_cons_succ] at k1_0 k1_1 k1_2; have lt_k1 := k1.lt
      have cC := o2.C.intAt HT.out
      have fC := o2.C.frozen l
      go_upto_region 8 with fail
      have o3 := o2.setT HT.out (-1)
      clear cC fC
      generalize hV : World.setCell w2 _ _ = w3
      rw [hV] at o3
      have g3 : Gr3 gA gB gC w w3 := by subst hV; exact g2.set1 (.inr (.inr rfl)) _
      have k0' : Bk w3 w.heap.size 30 (csC (some ⟨gA, 0, none⟩) (some ⟨gB, 0, none⟩) (some ⟨gC, 0, none⟩) a b c n h t) := by subst hV; exact k0.far (by dsimp only; omega) _
      have k1' : Bk w3 (w.heap.size + 1) 63 [.int .i64 l, .int .i64 (-1), .int .i64 (-1)] := by subst hV; exact k1.far (by dsimp only; omega) _
      (try clear k0_0 k0_f0 k0_1 k0_f1 k0_2 k0_f2 lt_k0) ; (try clear k1_0 k1_f0 k1_1 k1_f1 k1_2 k1_f2 lt_k1)
      clear hV o2 g2 k0 k1
      have k0 := k0'
      have k1 := k1'
      clear k0' k1'
      have k0_0 := k0.cell 0; have k0_f0 := k0.frozen 0; have k0_1 := k0.cell 1; have k0_f1 := k0.frozen 1; have k0_2 := k0.cell 2; have k0_f2 := k0.frozen 2; simp only [List.set_cons_zero, List.set_cons_succ, List.getElem?_cons_zero, List.getElem?_cons_succ] at k0_0 k0_1 k0_2; have lt_k0 := k0.lt; have k1_0 := k1.cell 0; have k1_f0 := k1.frozen 0; have k1_1 := k1.cell 1; have k1_f1 := k1.frozen 1; have k1_2 := k1.cell 2; have k1_f2 := k1.frozen 2; simp only [List.set_cons_zero, List.set_cons_succ, List.getElem?_cons_zero, List.getElem?_cons_succ] at k1_0 k1_1 k1_2; have lt_k1 := k1.lt
      have HQ3 : Hid (q < st.ns.length) := hide (HQ.out)
      obtain ⟨c1, c2, c3⟩ := o3.A.nd HQ3.out
      have f1 := o3.A.frozen (q * 3)
      have f2 := o3.A.frozen (q * 3 + 1)
      have f3 := o3.A.frozen (q * 3 + 2)
      go_wp2
      refine bodyPost_end (results_none rfl _ _ _) rfl ?_
      refine ⟨rfl, ?_, ((g3.set1 (.inl rfl) _).set1 (.inl rfl) _).set1 (.inl rfl) _⟩
      have o4 := o3.setA3 HQ3.out ⟨-1, -1, -1⟩
      rw [HP.out]
      exact o4
    · obtain ⟨m, rfl⟩ : ∃ m : Nat, nx = (m : Int) := ⟨nx.toNat, by omega⟩
      have hmn : (m : Int) < (n : Int) := by omega
      have HMn := hide (show m < st.ns.length by rw [HL.out]; omega)
      have k0_0 := k0.cell 0; have k0_f0 := k0.frozen 0; have k0_1 := k0.cell 1; have k0_f1 := k0.frozen 1; have k0_2 := k0.cell 2; have k0_f2 := k0.frozen 2; simp only [List.set_cons_zero, List.set_cons_succ, List.getElem?_cons_zero, List.getElem?_cons_succ] at k0_0 k0_1 k0_2; have lt_k0 := k0.lt; have k1_0 := k1.cell 0; have k1_f0 := k1.frozen 0; have k1_1 := k1.cell 1; have k1_f1 := k1.frozen 1; have k1_2 := k1.cell 2; have k1_f2 := k1.frozen 2; simp only [List.set_cons_zero, List.set_cons_succ, List.getElem?_cons_zero, List.getElem?_cons_succ] at k1_0 k1_1 k1_2; have lt_k1 := k1.lt
      obtain ⟨c1, c2, c3⟩ := o2.A.nd HMn.out
      have f2 := o2.A.frozen (m * 3 + 2)
      go_upto_region 8 with fail
      have o3 := o2.setP HMn.out (-1)
      clear c1 c2 c3 f2
      generalize hV : World.setCell w2 _ _ = w3
      rw [hV] at o3
      have g3 : Gr3 gA gB gC w w3 := by subst hV; exact g2.set1 (.inl rfl) _
      have k0' : Bk w3 w.heap.size 30 (csC (some ⟨gA, 0, none⟩) (some ⟨gB, 0, none⟩) (some ⟨gC, 0, none⟩) a b c n h t) := by subst hV; exact k0.far (by dsimp only; omega) _
      have k1' : Bk w3 (w.heap.size + 1) 63 [.int .i64 l, .int .i64 m, .int .i64 (-1)] := by subst hV; exact k1.far (by dsimp only; omega) _
      (try clear k0_0 k0_f0 k0_1 k0_f1 k0_2 k0_f2 lt_k0) ; (try clear k1_0 k1_f0 k1_1 k1_f1 k1_2 k1_f2 lt_k1)
      clear hV o2 g2 k0 k1
      have k0 := k0'
      have k1 := k1'
      clear k0' k1'
      have k0_0 := k0.cell 0; have k0_f0 := k0.frozen 0; have k0_1 := k0.cell 1; have k0_f1 := k0.frozen 1; have k0_2 := k0.cell 2; have k0_f2 := k0.frozen 2; simp only [List.set_cons_zero, List.set_cons_succ, List.getElem?_cons_zero, List.getElem?_cons_succ] at k0_0 k0_1 k0_2; have lt_k0 := k0.lt; have k1_0 := k1.cell 0; have k1_f0 := k1.frozen 0; have k1_1 := k1.cell 1; have k1_f1 := k1.frozen 1; have k1_2 := k1.cell 2; have k1_f2 := k1.frozen 2; simp only [List.set_cons_zero, List.set_cons_succ, List.getElem?_cons_zero, List.getElem?_cons_succ] at k1_0 k1_1 k1_2; have lt_k1 := k1.lt
      have HQ3 : Hid (q < (upd3 st.ns (m : Int) fun x => { x with p := -1 }).length) := hide (by simp only [upd3_length]; exact HQ.out)
      obtain ⟨c1, c2, c3⟩ := o3.A.nd HQ3.out
      have f1 := o3.A.frozen (q * 3)
      have f2 := o3.A.frozen (q * 3 + 1)
      have f3 := o3.A.frozen (q * 3 + 2)
      go_wp2
      refine bodyPost_end (results_none rfl _ _ _) rfl ?_
      refine ⟨rfl, ?_, ((g3.set1 (.inl rfl) _).set1 (.inl rfl) _).set1 (.inl rfl) _⟩
      have o4 := o3.setA3 HQ3.out ⟨-1, -1, -1⟩
      rw [HP.out]
      rw [if_neg (show ¬ ((m : Int) = -1) by omega)]; exact o4
  · obtain ⟨p, rfl⟩ : ∃ p : Nat, pv = (p : Int) := ⟨pv.toNat, by omega⟩
    have hpn : (p : Int) < (n : Int) := by omega
    have HPn := hide (show p < st.ns.length by rw [HL.out]; omega)
    have k0_0 := k0.cell 0; have k0_f0 := k0.frozen 0; have k0_1 := k0.cell 1; have k0_f1 := k0.frozen 1; have k0_2 := k0.cell 2; have k0_f2 := k0.frozen 2; simp only [List.set_cons_zero, List.set_cons_succ, List.getElem?_cons_zero, List.getElem?_cons_succ] at k0_0 k0_1 k0_2; have lt_k0 := k0.lt; have k1_0 := k1.cell 0; have k1_f0 := k1.frozen 0; have k1_1 := k1.cell 1; have k1_f1 := k1.frozen 1; have k1_2 := k1.cell 2; have k1_f2 := k1.frozen 2; simp only [List.set_cons_zero, List.set_cons_succ, List.getElem?_cons_zero, List.getElem?_cons_succ] at k1_0 k1_1 k1_2; have lt_k1 := k1.lt
    obtain ⟨c1, c2, c3⟩ := o1.A.nd HPn.out
    have f2 := o1.A.frozen (p * 3 + 1)
    go_upto_region 5 with fail
    have o2 := o1.setN HPn.out nx
    clear c1 c2 c3 f2
    generalize hV : World.setCell w1 _ _ = w2
    rw [hV] at o2
    have g2 : Gr3 gA gB gC w w2 := by subst hV; exact g1.set1 (.inl rfl) _
    have k0' : Bk w2 w.heap.size 30 (csC (some ⟨gA, 0, none⟩) (some ⟨gB, 0, none⟩) (some ⟨gC, 0, none⟩) a b c n h t) := by subst hV; exact k0.far (by dsimp only; omega) _
    have k1' : Bk w2 (w.heap.size + 1) 63 [.int .i64 l, .int .i64 nx, .int .i64 p] := by subst hV; exact k1.far (by dsimp only; omega) _
    (try clear k0_0 k0_f0 k0_1 k0_f1 k0_2 k0_f2 lt_k0) ; (try clear k1_0 k1_f0 k1_1 k1_f1 k1_2 k1_f2 lt_k1)
    clear hV o1 g1 k0 k1
    have k0 := k0'
    have k1 := k1'
    clear k0' k1'
    by_cases hx : nx = -1
    · subst hx
      have k0_0 := k0.cell 0; have k0_f0 := k0.frozen 0; have k0_1 := k0.cell 1; have k0_f1 := k0.frozen 1; have k0_2 := k0.cell 2; have k0_f2 := k0.frozen 2; simp only [List.set_cons_zero, List.set_cons_succ, List.getElem?_cons_zero, List.getElem?_cons_succ] at k0_0 k0_1 k0_2; have lt_k0 := k0.lt; have k1_0 := k1.cell 0; have k1_f0 := k1.frozen 0; have k1_1 := k1.cell 1; have k1_f1 := k1.frozen 1; have k1_2 := k1.cell 2; have k1_f2 := k1.frozen 2; simp only [List.set_cons_zero, List.set_cons_succ, List.getElem?_cons_zero, List.getElem?_cons_succ] at k1_0 k1_1 k1_2; have lt_k1 := k1.lt
      have cC := o2.C.intAt HT.out
      have fC := o2.C.frozen l
      go_upto_region 8 with fail
      have o3 := o2.setT HT.out p
      clear cC fC
      generalize hV : World.setCell w2 _ _ = w3
      rw [hV] at o3
      have g3 : Gr3 gA gB gC w w3 := by subst hV; exact g2.set1 (.inr (.inr rfl)) _
      have k0' : Bk w3 w.heap.size 30 (csC (some ⟨gA, 0, none⟩) (some ⟨gB, 0, none⟩) (some ⟨gC, 0, none⟩) a b c n h t) := by subst hV; exact k0.far (by dsimp only; omega) _
      have k1' : Bk w3 (w.heap.size + 1) 63 [.int .i64 l, .int .i64 (-1), .int .i64 p] := by subst hV; exact k1.far (by dsimp only; omega) _
      (try clear k0_0 k0_f0 k0_1 k0_f1 k0_2 k0_f2 lt_k0) ; (try clear k1_0 k1_f0 k1_1 k1_f1 k1_2 k1_f2 lt_k1)
      clear hV o2 g2 k0 k1
      have k0 := k0'
      have k1 := k1'
      clear k0' k1'
      have k0_0 := k0.cell 0; have k0_f0 := k0.frozen 0; have k0_1 := k0.cell 1; have k0_f1 := k0.frozen 1; have k0_2 := k0.cell 2; have k0_f2 := k0.frozen 2; simp only [List.set_cons_zero, List.set_cons_succ, List.getElem?_cons_zero, List.getElem?_cons_succ] at k0_0 k0_1 k0_2; have lt_k0 := k0.lt; have k1_0 := k1.cell 0; have k1_f0 := k1.frozen 0; have k1_1 := k1.cell 1; have k1_f1 := k1.frozen 1; have k1_2 := k1.cell 2; have k1_f2 := k1.frozen 2; simp only [List.set_cons_zero, List.set_cons_succ, List.getElem?_cons_zero, List.getElem?_cons_succ] at k1_0 k1_1 k1_2; have lt_k1 := k1.lt
      have HQ3 : Hid (q < (upd3 st.ns (p : Int) fun x => { x with n := -1 }).length) := hide (by simp only [upd3_length]; exact HQ.out)
      obtain ⟨c1, c2, c3⟩ := o3.A.nd HQ3.out
      have f1 := o3.A.frozen (q * 3)
      have f2 := o3.A.frozen (q * 3 + 1)
      have f3 := o3.A.frozen (q * 3 + 2)
      go_wp2
      refine bodyPost_end (results_none rfl _ _ _) rfl ?_
      refine ⟨rfl, ?_, ((g3.set1 (.inl rfl) _).set1 (.inl rfl) _).set1 (.inl rfl) _⟩
      have o4 := o3.setA3 HQ3.out ⟨-1, -1, -1⟩
      rw [HP.out]
      rw [if_neg (show ¬ ((p : Int) = -1) by omega)]; exact o4
    · obtain ⟨m, rfl⟩ : ∃ m : Nat, nx = (m : Int) := ⟨nx.toNat, by omega⟩
      have hmn : (m : Int) < (n : Int) := by omega
      have HMn := hide (show m < (upd3 st.ns (p : Int) fun x => { x with n := (m : Int) }).length by rw [upd3_length, HL.out]; omega)
      have k0_0 := k0.cell 0; have k0_f0 := k0.frozen 0; have k0_1 := k0.cell 1; have k0_f1 := k0.frozen 1; have k0_2 := k0.cell 2; have k0_f2 := k0.frozen 2; simp only [List.set_cons_zero, List.set_cons_succ, List.getElem?_cons_zero, List.getElem?_cons_succ] at k0_0 k0_1 k0_2; have lt_k0 := k0.lt; have k1_0 := k1.cell 0; have k1_f0 := k1.frozen 0; have k1_1 := k1.cell 1; have k1_f1 := k1.frozen 1; have k1_2 := k1.cell 2; have k1_f2 := k1.frozen 2; simp only [List.set_cons_zero, List.set_cons_succ, List.getElem?_cons_zero, List.getElem?_cons_succ] at k1_0 k1_1 k1_2; have lt_k1 := k1.lt
      obtain ⟨c1, c2, c3⟩ := o2.A.nd HMn.out
      have f2 := o2.A.frozen (m * 3 + 2)
      go_upto_region 8 with fail
      have o3 := o2.setP HMn.out p
      clear c1 c2 c3 f2
      generalize hV : World.setCell w2 _ _ = w3
      rw [hV] at o3
      have g3 : Gr3 gA gB gC w w3 := by subst hV; exact g2.set1 (.inl rfl) _
      have k0' : Bk w3 w.heap.size 30 (csC (some ⟨gA, 0, none⟩) (some ⟨gB, 0, none⟩) (some ⟨gC, 0, none⟩) a b c n h t) := by subst hV; exact k0.far (by dsimp only; omega) _
      have k1' : Bk w3 (w.heap.size + 1) 63 [.int .i64 l, .int .i64 m, .int .i64 p] := by subst hV; exact k1.far (by dsimp only; omega) _
      (try clear k0_0 k0_f0 k0_1 k0_f1 k0_2 k0_f2 lt_k0) ; (try clear k1_0 k1_f0 k1_1 k1_f1 k1_2 k1_f2 lt_k1)
      clear hV o2 g2 k0 k1
      have k0 := k0'
      have k1 := k1'
      clear k0' k1'
      have k0_0 := k0.cell 0; have k0_f0 := k0.frozen 0; have k0_1 := k0.cell 1; have k0_f1 := k0.frozen 1; have k0_2 := k0.cell 2; have k0_f2 := k0.frozen 2; simp only [List.set_cons_zero, List.set_cons_succ, List.getElem?_cons_zero, List.getElem?_cons_succ] at k0_0 k0_1 k0_2; have lt_k0 := k0.lt; have k1_0 := k1.cell 0; have k1_f0 := k1.frozen 0; have k1_1 := k1.cell 1; have k1_f1 := k1.frozen 1; have k1_2 := k1.cell 2; have k1_f2 := k1.frozen 2; simp only [List.set_cons_zero, List.set_cons_succ, List.getElem?_cons_zero, List.getElem?_cons_succ] at k1_0 k1_1 k1_2; have lt_k1 := k1.lt
      have HQ3 : Hid (q < (upd3 (upd3 st.ns (p : Int) fun x => { x with n := m }) (m : Int) fun x => { x with p := p }).length) := hide (by simp only [upd3_length]; exact HQ.out)
      obtain ⟨c1, c2, c3⟩ := o3.A.nd HQ3.out
      have f1 := o3.A.frozen (q * 3)
      have f2 := o3.A.frozen (q * 3 + 1)
      have f3 := o3.A.frozen (q * 3 + 2)
      go_wp2
      refine bodyPost_end (results_none rfl _ _ _) rfl ?_
      refine ⟨rfl, ?_, ((g3.set1 (.inl rfl) _).set1 (.inl rfl) _).set1 (.inl rfl) _⟩
      have o4 := o3.setA3 HQ3.out ⟨-1, -1, -1⟩
      rw [HP.out]
      rw [if_neg (show ¬ ((p : Int) = -1) by omega)]; rw [if_neg (show ¬ ((m : Int) = -1) by omega)]; exact o4
end Go.Proofs.Ythicpjfdljgfpaa
