/- Package chain: own. -/
import Derived.Test.YthicpjfdljgfpaaChe
import Derived.Test.YthicpjfdljgfpaaRel4
namespace Go.Proofs.Ythicpjfdljgfpaa
open Go.RowKit Go.Sort
set_option linter.unusedSimpArgs false
set_option linter.unusedVariables false

theorem own_mono {w : World} {base base' : Nat} {t : TypeId} {size : Nat} {v : Value} {n : Nat} {xs : List Value} (h : w.ownsRow base t size v n xs) (hb : base' ≤ base) : w.ownsRow base' t size v n xs := by
  obtain ⟨h1, h2⟩ := h
  refine ⟨h1, h2.imp id ?_⟩
  rintro ⟨g, cap, cur, e, hg, r⟩
  exact ⟨g, cap, cur, e, Nat.le_trans hb hg, r⟩
theorem _root_.Go.Calls.mownR {P : Program} {f : FuncId} {args : Array Value} {w : World} {base : Nat} {t : TypeId} {size n : Nat} {xs : List Value} (hb : base ≤ w.heap.size) (h : Calls P f args w fun e w' => ∃ B d, e = .returned (.slice B n d) ∧ w'.ownsRow w.heap.size t size (.slice B n d) n xs ∧ Below w.heap.size w w') : Calls P f args w (mPost (OwnAtR base t size n xs) w) :=
  h.mono fun _ _ ⟨B, d, e, o, k⟩ => ⟨_, e, ⟨B, d, rfl⟩, ⟨B, d, rfl, own_mono o hb⟩, k⟩
set_option maxRecDepth 100000 in
set_option maxHeartbeats 4000000 in
theorem chain_own_any (A B C : Option Addr) (a b c : Nat) (st : Ch) (w : World) (h1 : st.ns.length ≤ 1000) (h2 : st.hs.length ≤ 1000) (h3 : st.ts.length ≤ 1000) (rA : Rd w w.heap.size A (nds st.ns)) (rB : Rd w w.heap.size B (ints st.hs)) (rC : Rd w w.heap.size C (ints st.ts)) :
    Calls Try.prog 34 #[csV A B C a b c st.ns.length st.hs.length st.ts.length] w fun e w' => ∃ A' B' C' a' b' c', e = .returned (csV A' B' C' a' b' c' st.ns.length st.hs.length st.ts.length) ∧
      w'.ownsRow w.heap.size 63 3 (.slice A' st.ns.length a') st.ns.length (nds st.ns) ∧ w'.ownsRow w.heap.size 3 1 (.slice B' st.hs.length b') st.hs.length (ints st.hs) ∧ w'.ownsRow w.heap.size 3 1 (.slice C' st.ts.length c') st.ts.length (ints st.ts) ∧ Below w.heap.size w w' := by
  go_enter Try.func34, Try.ntmps34
  go_wp2_with fail
  generalize hV : World.alloc (World.alloc w _) _ = w1
  have hb1 : Below w.heap.size w w1 := by subst hV; (repeat (first | with_reducible exact Below.refl _ _ | with_reducible assumption | with_reducible refine Below.drew ?_ | with_reducible refine Below.drewN ?_ _ | with_reducible refine Below.alloc1 ?_ _ | with_reducible refine Below.setCell1 ?_ (by first | omega | (simp; done) | (simp; omega)) _ | with_reducible refine Below.step ?_ (by with_reducible assumption)))
  have k0 : Bk w1 w.heap.size 30 (csC A B C a b c st.ns.length st.hs.length st.ts.length) := by subst hV; (repeat (first | with_reducible exact Bk.new' _ _ _ _ (by simp; done) | with_reducible assumption | with_reducible refine Bk.alloc ?_ _ | with_reducible refine Bk.drew ?_ | with_reducible refine Bk.drewN ?_ _ | with_reducible refine Bk.step ?_ (by with_reducible assumption) | with_reducible refine Bk.far ?_ (by first | omega | (simp; done) | (simp; omega)) _))
  have k1 : Bk w1 (w.heap.size + 1) 30 (csC none none none 0 0 0 0 0 0) := by subst hV; exact Bk.new' (World.alloc w _) 30 (csC none none none 0 0 0 0 0 0) _ (by simp)
  clear hV
  have ra := (rA.below hb1).more hb1.size
  have rb := (rB.below hb1).more hb1.size
  have rc := (rC.below hb1).more hb1.size
  have k0_0 := k0.cell 0; have k0_f0 := k0.frozen 0; have k0_1 := k0.cell 1; have k0_f1 := k0.frozen 1; have k0_2 := k0.cell 2; have k0_f2 := k0.frozen 2; simp only [List.set_cons_zero, List.set_cons_succ, List.getElem?_cons_zero, List.getElem?_cons_succ] at k0_0 k0_1 k0_2; have lt_k0 := k0.lt; have k1_0 := k1.cell 0; have k1_f0 := k1.frozen 0; have k1_1 := k1.cell 1; have k1_f1 := k1.frozen 1; have k1_2 := k1.cell 2; have k1_f2 := k1.frozen 2; simp only [List.set_cons_zero, List.set_cons_succ, List.getElem?_cons_zero, List.getElem?_cons_succ] at k1_0 k1_1 k1_2; have lt_k1 := k1.lt
  refine wp_region_mt 10 [(2, OwnAtR w1.heap.size 63 3 st.ns.length (nds st.ns)), (5, OwnAtR w1.heap.size 3 1 st.hs.length (ints st.hs)), (8, OwnAtR w1.heap.size 3 1 st.ts.length (ints st.ts))] (by kernel_rfl) (by kernel_rfl) (by kernel_rfl) (by kernel_rfl) (sts_cons (sts_ownR _ _ _ _ _) (sts_cons (sts_ownR _ _ _ _ _) (sts_cons (sts_ownR _ _ _ _ _) sts_nil))) (fun kq => ?_); (try dsimp only [List.append, List.take])
  (repeat (refine wpM_via (by kernel_rfl) ?_; go_big_quiet_step (fail); refine wpQuiet_nil ?_))
  (refine wpM_spec _ (OwnAtR w1.heap.size 63 3 st.ns.length (nds st.ns)) (by kernel_rfl) (by kernel_rfl) rfl (later_some _) ?_ ?_; (focus (intro x hx hk; obtain ⟨px, rfl⟩ := hx; go_simp; (first | with_reducible refine mUpon_enter ?_ | with_reducible refine mUpon_value ?_); go_at_call 56; exact Calls.mownR (below_regrown w1 px.d px.os).size (nodes_Clone A a st.ns _ h1 (ra.step (below_regrown w1 _ _))))); intro v hv K hK; obtain ⟨A', a', rfl⟩ := hv; go_big_quiet_op; refine hK _ ?_; clear hK K)
  (repeat (refine wpM_via (by kernel_rfl) ?_; go_big_quiet_step (fail); refine wpQuiet_nil ?_))
  (refine wpM_spec _ (OwnAtR w1.heap.size 3 1 st.hs.length (ints st.hs)) (by kernel_rfl) (by kernel_rfl) rfl (later_some _) ?_ ?_; (focus (intro x hx hk; obtain ⟨px, rfl⟩ := hx; go_simp; (first | with_reducible refine mUpon_enter ?_ | with_reducible refine mUpon_value ?_); go_at_call 57; exact Calls.mownR (below_regrown w1 px.d px.os).size (ints_Clone B b st.hs _ h2 (rb.step (below_regrown w1 _ _))))); intro v hv K hK; obtain ⟨B', b', rfl⟩ := hv; go_big_quiet_op; refine hK _ ?_; clear hK K)
  (repeat (refine wpM_via (by kernel_rfl) ?_; go_big_quiet_step (fail); refine wpQuiet_nil ?_))
  (refine wpM_spec _ (OwnAtR w1.heap.size 3 1 st.ts.length (ints st.ts)) (by kernel_rfl) (by kernel_rfl) rfl (later_some _) ?_ ?_; (focus (intro x hx hk; obtain ⟨px, rfl⟩ := hx; go_simp; (first | with_reducible refine mUpon_enter ?_ | with_reducible refine mUpon_value ?_); go_at_call 57; exact Calls.mownR (below_regrown w1 px.d px.os).size (ints_Clone C c st.ts _ h3 (rc.step (below_regrown w1 _ _))))); intro v hv K hK; obtain ⟨C', c', rfl⟩ := hv; go_big_quiet_op; refine hK _ ?_; clear hK K)
  (repeat (refine wpM_via (by kernel_rfl) ?_; go_big_quiet_step (fail); refine wpQuiet_nil ?_))
  refine wpM_nil ?_; intro wq hwq hfq; have hbq := below_of_class hwq; clear hwq kq; (try dsimp only [List.drop])
  have o1 := own_ofR (base := w1.heap.size) hfq.2.2.1
  have o2 := own_ofR (base := w1.heap.size) hfq.2.1
  have o3 := own_ofR (base := w1.heap.size) hfq.1
  replace hb1 : Below w.heap.size w wq := hb1.then_ hbq hb1.size
  have hw1 : w.heap.size + 1 < w1.heap.size := lt_k1
  have k2 := k1.step hbq
  (try clear k0_0 k0_f0 k0_1 k0_f1 k0_2 k0_f2 lt_k0) ; (try clear k1_0 k1_f0 k1_1 k1_f1 k1_2 k1_f2 lt_k1)
  clear hfq hbq ra rb rc rA rB rC k0 k1
  (refine wpList_store_row rfl 30 _ _ rfl _ (csC A' B' C' a' b' c' st.ns.length st.hs.length st.ts.length).toArray rfl rfl _ _ k2 (by kernel_rfl) (by kernel_rfl) (by kernel_rfl) ?_)
  have r2 := k2.row (csC A' B' C' a' b' c' st.ns.length st.hs.length st.ts.length)
  have hfar : ∀ {e : TypeId} {size n d : Nat} {D : Option Addr} {xs : List Value}, wq.ownsRow w1.heap.size e size (.slice D n d) n xs → (wq.setRow (w.heap.size + 1) (csC A' B' C' a' b' c' st.ns.length st.hs.length st.ts.length).toArray).ownsRow w.heap.size e size (.slice D n d) n xs := fun o => by
    obtain ⟨q1, q2⟩ := o
    refine ⟨q1, q2.imp id ?_⟩
    rintro ⟨g, cap, cur, e, hg, hh, r⟩
    exact ⟨g, cap, cur, e, by omega, (setRow_other wq (w.heap.size + 1) g _ (by omega)).trans hh, r⟩
  go_wp2
  refine bodyPost_ret (v := .agg (csC A' B' C' a' b' c' st.ns.length st.hs.length st.ts.length).toArray) ?_ rfl ?_
  · exact results_cell_row rfl _ _ _ _ _ (0, 0) _ rfl r2 Try.underlying30 rfl (by kernel_rfl)
  · exact ⟨A', B', C', a', b', c', rfl, hfar o1, hfar o2, hfar o3, setRow_below hb1 (by omega) _⟩
end Go.Proofs.Ythicpjfdljgfpaa
