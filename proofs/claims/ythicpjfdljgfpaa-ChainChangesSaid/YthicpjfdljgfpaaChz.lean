/- Package chain: New. -/
import Derived.Test.YthicpjfdljgfpaaChy
namespace Go.Proofs.Ythicpjfdljgfpaa
open Go.RowKit Go.Sort
set_option linter.unusedSimpArgs false
set_option linter.unusedVariables false

def dNew (n k : Int) : Ch × Int := if cIn n 1 64 = false then (⟨[], [], []⟩, 8) else if cIn k 1 8 = false then (⟨[], [], []⟩, 8) else (laid n.toNat (List.replicate k.toNat []), 0)
theorem laid_new (n k : Nat) : laid n (List.replicate k []) = ⟨List.replicate n nd0, List.replicate k (-1), List.replicate k (-1)⟩ := by
  refine ch_ext ?_ ?_ ?_
  · apply List.ext_getElem?
    intro p
    rw [laid_get]
    have e : ndOf (List.replicate k []) p = nd0 := ndGo_none (fun m hm => by rw [(List.mem_replicate.1 hm).2]; simp) 0
    by_cases h : p < n
    · simp [h, e]
    · simp [h]
  · simp [laid, hd]
  · simp [laid, lst]
theorem nds_rep (n : Nat) : nds (List.replicate n nd0) = rep [.int .i64 (-1), .int .i64 (-1), .int .i64 (-1)] n := by
  induction n with
  | zero => rfl
  | succ n ih => rw [List.replicate_succ]; simp only [nds, List.flatMap_cons, rep, List.replicate_succ, List.flatten_cons] at ih ⊢; rw [ih]; rfl
theorem ints_rep (n : Nat) : ints (List.replicate n (-1)) = rep [.int .i64 (-1)] n := by
  induction n with
  | zero => rfl
  | succ n ih => rw [List.replicate_succ]; simp only [ints, List.map_cons, rep, List.replicate_succ, List.flatten_cons] at ih ⊢; rw [ih]; rfl
set_option maxRecDepth 100000 in
set_option maxHeartbeats 8000000 in
theorem chain_New_any (n k : Int) (w : World) :
    Calls Try.prog 20 #[.int .i64 n, .int .i64 k] w fun e w' => ∃ V', e = .returned (.tuple #[V', .int .i64 (dNew n k).2]) ∧ CsNew w.heap.size w' V' (dNew n k).1 ∧ Below w.heap.size w w' := by
  have hN := fun W => chain_in_any n 1 64 W
  have hK := fun W => chain_in_any k 1 8 W
  have HR := hide (show dNew n k = if cIn n 1 64 = false then (⟨[], [], []⟩, 8) else if cIn k 1 8 = false then (⟨[], [], []⟩, 8) else (laid n.toNat (List.replicate k.toNat []), 0) from rfl)
  generalize dNew n k = R at *
  have hbad : ∀ W : World, Below w.heap.size w W → R = (⟨[], [], []⟩, 8) → ∃ V', (Ending.returned (.tuple #[csV none none none 0 0 0 0 0 0, .int .i64 8])) = .returned (.tuple #[V', .int .i64 R.2]) ∧ CsNew w.heap.size W V' R.1 ∧ Below w.heap.size w W := fun W hb hR => by
    subst hR
    exact ⟨_, rfl, ⟨none, none, none, 0, 0, 0, rfl, rwn_none _ _ _, rwn_none _ _ _, rwn_none _ _ _⟩, hb⟩
  have HBad := hide hbad
  clear hbad
  cases hv : cIn n 1 64
  · have hR := hide (show R = (⟨[], [], []⟩, 8) by rw [HR.out, if_pos hv])
    rw [hv] at hN
    clear HR hv hK
    go_enter Try.func20, Try.ntmps20
    go_wp2_with fail
    generalize hV : World.alloc w _ = w1
    have hb1 : Below w.heap.size w w1 := by subst hV; (repeat (first | with_reducible exact Below.refl _ _ | with_reducible assumption | with_reducible refine Below.drew ?_ | with_reducible refine Below.drewN ?_ _ | with_reducible refine Below.alloc1 ?_ _ | with_reducible refine Below.setCell1 ?_ (by first | omega | (simp; done) | (simp; omega)) _ | with_reducible refine Below.step ?_ (by with_reducible assumption)))
    have k1 : Bk w1 w.heap.size 30 (csC none none none 0 0 0 0 0 0) := by subst hV; (repeat (first | with_reducible exact Bk.new' _ _ _ _ (by simp; done) | with_reducible assumption | with_reducible refine Bk.alloc ?_ _ | with_reducible refine Bk.drew ?_ | with_reducible refine Bk.drewN ?_ _ | with_reducible refine Bk.step ?_ (by with_reducible assumption) | with_reducible refine Bk.far ?_ (by first | omega | (simp; done) | (simp; omega)) _))
    clear hV
    refine (hN _).mono ?_; rintro e w2 ⟨rfl, rfl⟩
    have lt1 := k1.lt
    go_wp2_with ((refine wpList_store_row rfl 30 _ _ rfl _ (csC none none none 0 0 0 0 0 0).toArray rfl rfl _ _ k1 (by kernel_rfl) (by kernel_rfl) (by kernel_rfl) ?_))
    have r1 := k1.row (csC none none none 0 0 0 0 0 0)
    refine bodyPost_ret (results_row_tmp rfl _ _ (w.heap.size) _ _ _ rfl r1 Try.underlying30 rfl (by kernel_rfl)) rfl ?_
    exact HBad.out _ (setRow_below hb1 (Nat.le_refl _) _) hR.out
  · have hb := cIn_t hv
    have HR1 := hide (show R = if cIn k 1 8 = false then (⟨[], [], []⟩, 8) else (laid n.toNat (List.replicate k.toNat []), 0) by rw [HR.out, if_neg (by simp [hv])])
    rw [hv] at hN
    obtain ⟨n', rfl⟩ : ∃ n' : Nat, n = (n' : Int) := ⟨n.toNat, by omega⟩
    have hn : 1 ≤ n' ∧ n' ≤ 64 := by omega
    clear HR hv hb
    cases hv : cIn k 1 8
    · have hR := hide (show R = (⟨[], [], []⟩, 8) by rw [HR1.out, if_pos hv])
      rw [hv] at hK
      clear HR1 hv
      go_enter Try.func20, Try.ntmps20
      go_wp2_with fail
      generalize hV : World.alloc w _ = w1
      have hb1 : Below w.heap.size w w1 := by subst hV; (repeat (first | with_reducible exact Below.refl _ _ | with_reducible assumption | with_reducible refine Below.drew ?_ | with_reducible refine Below.drewN ?_ _ | with_reducible refine Below.alloc1 ?_ _ | with_reducible refine Below.setCell1 ?_ (by first | omega | (simp; done) | (simp; omega)) _ | with_reducible refine Below.step ?_ (by with_reducible assumption)))
      have k1 : Bk w1 w.heap.size 30 (csC none none none 0 0 0 0 0 0) := by subst hV; (repeat (first | with_reducible exact Bk.new' _ _ _ _ (by simp; done) | with_reducible assumption | with_reducible refine Bk.alloc ?_ _ | with_reducible refine Bk.drew ?_ | with_reducible refine Bk.drewN ?_ _ | with_reducible refine Bk.step ?_ (by with_reducible assumption) | with_reducible refine Bk.far ?_ (by first | omega | (simp; done) | (simp; omega)) _))
      clear hV
      refine (hN _).mono ?_; rintro e w2 ⟨rfl, rfl⟩
      go_wp2_with fail
      refine (hK _).mono ?_; rintro e w3 ⟨rfl, rfl⟩
      have lt1 := k1.lt
      go_wp2_with ((refine wpList_store_row rfl 30 _ _ rfl _ (csC none none none 0 0 0 0 0 0).toArray rfl rfl _ _ k1 (by kernel_rfl) (by kernel_rfl) (by kernel_rfl) ?_))
      have r1 := k1.row (csC none none none 0 0 0 0 0 0)
      refine bodyPost_ret (results_row_tmp rfl _ _ (w.heap.size) _ _ _ rfl r1 Try.underlying30 rfl (by kernel_rfl)) rfl ?_
      exact HBad.out _ (setRow_below hb1 (Nat.le_refl _) _) hR.out
    · have hb := cIn_t hv
      obtain ⟨k', rfl⟩ : ∃ k' : Nat, k = (k' : Int) := ⟨k.toNat, by omega⟩
      have hk : 1 ≤ k' ∧ k' ≤ 64 := by omega
      have hR := hide (show R = (laid n' (List.replicate k' []), 0) by rw [HR1.out, if_neg (by simp [hv])]; simp)
      rw [hv] at hK
      clear HR1 hv hb HBad
      have hRn := fun (v : Nat) (W : World) kv => nodes_Repeat v n' W hn kv
      have hRi := fun (v : Nat) (W : World) kv => ints_Repeat v k' W hk kv
      go_enter Try.func20, Try.ntmps20
      go_wp2_with fail
      generalize hV : World.alloc w _ = w1
      have hb1 : Below w.heap.size w w1 := by subst hV; (repeat (first | with_reducible exact Below.refl _ _ | with_reducible assumption | with_reducible refine Below.drew ?_ | with_reducible refine Below.drewN ?_ _ | with_reducible refine Below.alloc1 ?_ _ | with_reducible refine Below.setCell1 ?_ (by first | omega | (simp; done) | (simp; omega)) _ | with_reducible refine Below.step ?_ (by with_reducible assumption)))
      have k1 : Bk w1 w.heap.size 30 (csC none none none 0 0 0 0 0 0) := by subst hV; (repeat (first | with_reducible exact Bk.new' _ _ _ _ (by simp; done) | with_reducible assumption | with_reducible refine Bk.alloc ?_ _ | with_reducible refine Bk.drew ?_ | with_reducible refine Bk.drewN ?_ _ | with_reducible refine Bk.step ?_ (by with_reducible assumption) | with_reducible refine Bk.far ?_ (by first | omega | (simp; done) | (simp; omega)) _))
      clear hV
      refine (hN _).mono ?_; rintro e w2 ⟨rfl, rfl⟩
      go_wp2_with fail
      refine (hK _).mono ?_; rintro e w3 ⟨rfl, rfl⟩
      go_wp2_with fail
      have lt1 := k1.lt
      refine (hRn _ _ (Bk.new _ _ _)).mono ?_; rintro e w4 ⟨gA, rfl, oA, hx⟩
      have hx2 : Below w1.heap.size w1 w4 := ((Below.refl w1.heap.size w1).alloc1 (.cells #[.int .i64 (-1), .int .i64 (-1), .int .i64 (-1)] 63)).step hx
      replace oA := own_mono oA (show w.heap.size + 1 ≤ (w1.alloc _).heap.size by simp; omega)
      replace k1 := k1.step hx2
      replace hb1 : Below w.heap.size w w4 := hb1.step hx2
      clear hx hx2
      have lt2 := k1.lt
      go_wp2_with fail
      refine (hRi _ _ (Bk.new _ _ _)).mono ?_; rintro e w5 ⟨gB, rfl, oB, hx⟩
      have hx2 : Below w4.heap.size w4 w5 := ((Below.refl w4.heap.size w4).alloc1 (.cells #[.int .i64 (-1)] 3)).step hx
      replace oB := own_mono oB (show w.heap.size + 1 ≤ (w4.alloc _).heap.size by simp; omega)
      replace oA := own_below oA hx2 (Nat.le_refl _)
      replace k1 := k1.step hx2
      replace hb1 : Below w.heap.size w w5 := hb1.step hx2
      clear hx hx2
      have lt3 := k1.lt
      go_wp2_with fail
      refine (hRi _ _ (Bk.new _ _ _)).mono ?_; rintro e w6 ⟨gC, rfl, oC, hx⟩
      have hx2 : Below w5.heap.size w5 w6 := ((Below.refl w5.heap.size w5).alloc1 (.cells #[.int .i64 (-1)] 3)).step hx
      replace oC := own_mono oC (show w.heap.size + 1 ≤ (w5.alloc _).heap.size by simp; omega)
      replace oA := own_below oA hx2 (Nat.le_refl _)
      replace oB := own_below oB hx2 (Nat.le_refl _)
      replace k1 := k1.step hx2
      replace hb1 : Below w.heap.size w w6 := hb1.step hx2
      clear hx hx2
      have lt4 := k1.lt
      go_wp2_with ((refine wpList_store_row rfl 30 _ _ rfl _ (csC (some ⟨gA, 0, none⟩) (some ⟨gB, 0, none⟩) (some ⟨gC, 0, none⟩) n' k' k' n' k' k').toArray rfl rfl _ _ k1 (by kernel_rfl) (by kernel_rfl) (by kernel_rfl) ?_))
      have r1 := k1.row (csC (some ⟨gA, 0, none⟩) (some ⟨gB, 0, none⟩) (some ⟨gC, 0, none⟩) n' k' k' n' k' k')
      refine bodyPost_ret (results_row_tmp rfl _ _ (w.heap.size) _ _ _ rfl r1 Try.underlying30 rfl (by kernel_rfl)) rfl ⟨csV (some ⟨gA, 0, none⟩) (some ⟨gB, 0, none⟩) (some ⟨gC, 0, none⟩) n' k' k' n' k' k', ?_, ?_, setRow_below hb1 (Nat.le_refl _) _⟩
      · rw [hR.out]; rfl
      · rw [hR.out, laid_new]
        refine ⟨some ⟨gA, 0, none⟩, some ⟨gB, 0, none⟩, some ⟨gC, 0, none⟩, n', k', k', by simp, ?_, ?_, ?_⟩
        · show RwN _ _ _ _ (nds (List.replicate n' nd0))
          rw [nds_rep]; exact rwn_own (own_rowfar oA (Nat.lt_succ_self _) _) (Nat.le_succ _)
        · show RwN _ _ _ _ (ints (List.replicate k' (-1)))
          rw [ints_rep]; exact rwn_own (own_rowfar oB (Nat.lt_succ_self _) _) (Nat.le_succ _)
        · show RwN _ _ _ _ (ints (List.replicate k' (-1)))
          rw [ints_rep]; exact rwn_own (own_rowfar oC (Nat.lt_succ_self _) _) (Nat.le_succ _)
end Go.Proofs.Ythicpjfdljgfpaa
