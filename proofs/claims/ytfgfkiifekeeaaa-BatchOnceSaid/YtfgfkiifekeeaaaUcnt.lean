/- Package utf: Count, Check, Plain, Cut. -/
import Derived.Test.YtfgfkiifekeeaaaUall
namespace Go.Proofs.Ytfgfkiifekeeaaa
open Go.RowKit Go.Shelf
attribute [local go_sem] Oper.semAt_some
set_option linter.unusedSimpArgs false
set_option linter.unusedVariables false

theorem size_list0 (s : ByteArray) (h : s.size = 0) : s.data.toList = [] := List.eq_nil_of_length_eq_zero (by rw [list_size]; exact h)
theorem uScan_len (s : List UInt8) : (uScan s).length ≤ s.length := by
  refine uInd (C := fun s => (uScan s).length ≤ s.length) ?_ ?_ s
  · rw [uScan_nil]; exact Nat.le_refl _
  · intro s hs ih
    rw [uScan_cons s hs, List.length_cons]
    have := drop_lt s hs
    omega
set_option maxRecDepth 100000 in
set_option maxHeartbeats 4000000 in
theorem utf_Plain_any (s : ByteArray) (hs : s.size ≤ maxLen) (w : World) : Calls Try.prog 53 #[.string s] w fun e w' => e = .returned (.bool (uPlain s.data.toList)) ∧ Below w.heap.size w w' := by
  refine (callsIn_wide (n := 3)).1 ?_
  refine callsIn_of_wp_marks Try.func53 rfl trivial ?_ rfl
  simp only [Try.ntmps53, List.size_toArray, List.length_cons, List.length_nil, Nat.reduceAdd, Nat.reduceSub, Array.replicate_succ, Array.replicate_zero, List.push_toArray, List.append_toArray, List.nil_append, List.cons_append]
  gi_wp2_with fail
  generalize hV : World.alloc w _ = w0
  have hb0 : Below w.heap.size w w0 := by subst hV; (repeat (first | with_reducible exact Below.refl _ _ | with_reducible assumption | with_reducible refine Below.drew ?_ | with_reducible refine Below.drewN ?_ _ | with_reducible refine Below.alloc1 ?_ _ | with_reducible refine Below.setCell1 ?_ (by first | omega | (simp; done) | (simp; omega)) _ | with_reducible refine Below.step ?_ (by with_reducible assumption)))
  have k1 : Bk w0 w.heap.size 4 [.bool false] := by subst hV; (repeat (first | with_reducible exact Bk.new' _ _ _ _ (by simp; done) | with_reducible assumption | with_reducible refine Bk.alloc ?_ _ | with_reducible refine Bk.drew ?_ | with_reducible refine Bk.drewN ?_ _ | with_reducible refine Bk.step ?_ (by with_reducible assumption) | with_reducible refine Bk.far ?_ (by first | omega | (simp; done) | (simp; omega)) _))
  clear hV
  refine ⟨trivial, (callsIn_wide.2 (utf_all_any s _)).mono ?_⟩; rintro e w1 ⟨rfl, hb1, kB⟩
  have hne : w.heap.size ≠ w0.heap.size := Nat.ne_of_lt k1.lt
  have hBw0 : w.heap.size ≤ w0.heap.size := hb0.size
  replace k1 := k1.step hb1
  replace hb0 := hb0.step hb1
  clear hb1
  generalize w0.heap.size = B at *
  gi_wp2_with fail
  refine wpIn_all rfl rfl s hs kB
    (fun r W => uPlain r.data.toList = uPlain s.data.toList ∧ Bk W w.heap.size 4 [.bool false] ∧ Below w.heap.size w W)
    (fun c W => c = .ret ∧ uPlain s.data.toList = false ∧ Bk W w.heap.size 4 [.bool false] ∧ Below w.heap.size w W) (fun r W1 W2 ⟨e, k, b⟩ hb => ⟨e, k.step hb, b.step hb⟩) (fun r W1 v ⟨e, k, b⟩ => ⟨e, k.far hne v, b.setCell1 hBw0 v⟩)
    (fun r W l o o' ⟨e, k, b⟩ hl h ho => ⟨e, k.put o' h ho, below_put b o' (Nat.le_trans hb0.size hl)⟩)
    (fun c W l o o' ⟨e1, e, k, b⟩ hl h ho => ⟨e1, e, k.put o' h ho, below_put b o' (Nat.le_trans hb0.size hl)⟩) ⟨rfl, k1, hb0⟩ _ (fun l c m W K hK => by gi_wp2; exact hK) ?body ?done ?stop
  case body =>
    rintro l r c m W hr hrz hu ⟨e, k, b⟩ kr
    have k_0 := k.cell 0; have k_f0 := k.frozen 0; simp only [List.set_cons_zero, List.set_cons_succ, List.getElem?_cons_zero, List.getElem?_cons_succ] at k_0; have lt_k := k.lt
    have hE := uPlain_cons r.data.toList (list_ne r hrz)
    rw [hu] at hE
    dsimp only at hE
    rw [e] at hE
    have HE := hide hE
    clear hE e
    have hctl : uCtl c = (decide (c < 32) || decide (c = 127)) := rfl
    by_cases hc : c < 32
    · have hE2 := hide (show uPlain s.data.toList = false by rw [HE.out, hctl, decide_eq_true hc]; rfl)
      clear HE hctl
      gi_wp2
      exact ⟨KeepsOthers.setCell _ _ _, rfl, by rw [hE2.out], k.set_ 0 _, b.setCell1 (Nat.le_refl _) _⟩
    have hc2 : 32 ≤ c := by omega
    by_cases hc1 : c = 127
    · subst hc1
      gi_wp2
      exact ⟨KeepsOthers.setCell _ _ _, rfl, by rw [HE.out]; rfl, k.set_ 0 _, b.setCell1 (Nat.le_refl _) _⟩
    · have hE2 := hide (show uPlain s.data.toList = uPlain (r.data.toList.drop m) by rw [HE.out, hctl, decide_eq_false hc, decide_eq_false hc1]; rfl)
      have hcf : ((c == 127) : Bool) = false := by simp [hc1]
      clear HE hctl
      gi_wp2
      refine ⟨KeepsOthers.refl _, kr, ?_, k, b⟩
      rw [nx_list, hu, hE2.out]
  case done =>
    rintro D r W hD hz ⟨e, k, b⟩ hK
    rw [size_list0 r hz, uPlain_nil] at e
    replace e := hide e
    have k_0 := k.cell 0; have k_f0 := k.frozen 0; simp only [List.set_cons_zero, List.set_cons_succ, List.getElem?_cons_zero, List.getElem?_cons_succ] at k_0; have lt_k := k.lt
    gi_wp2
    have hK2 := (KeepsOthers.setCell W ⟨w.heap.size, 0, none⟩ (.bool true)).same D _ hK rfl
    have k2 := (k.set_ 0 (.bool true)).put (.deferred none) hK2 rfl
    refine ⟨by simp, .inl ⟨_, _, rfl, run_takeDeferred hK2, ?_⟩⟩
    have k2_0 := k2.cell 0
    refine ⟨.bool true, ?_, by rw [← e.out] <;> rfl, below_put (b.setCell1 (Nat.le_refl _) _) _ (Nat.le_trans hb0.size hD)⟩
    simp [results, Try.f53, go_sem, k2_0]
  case stop =>
    rintro D c W hD ⟨rfl, e, k, b⟩ hK
    replace e := hide e
    gi_wp2
    have k2 := k.put (.deferred none) hK rfl
    refine ⟨by simp, .inl ⟨_, _, rfl, run_takeDeferred hK, ?_⟩⟩
    have k2_0 := k2.cell 0
    refine ⟨.bool false, ?_, by rw [e.out] <;> rfl, below_put b _ (Nat.le_trans hb0.size hD)⟩
    simp [results, Try.f53, go_sem, k2_0]
theorem cut_step (l : List UInt8) (n m q : Nat) (most : Int) (h : n + (m + uCut l (most - n - m)) = q) : n + m + uCut l (most - ((n + m : Nat) : Int)) = q := by
  rw [show most - ((n + m : Nat) : Int) = most - n - m by omega]
  omega
theorem rest_step (n m a b : Nat) (h : m ≤ a) (h2 : n + a = b) : n + m + (a - m) = b := by omega
theorem most_step (n m : Nat) (most : Int) (h : (m : Int) ≤ most - n) : ((n + m : Nat) : Int) ≤ most := by omega
theorem nm_le (n m a : Nat) (h : n + m ≤ a) (ha : a ≤ 2 ^ 63 - 1) : (n : Int) + m ≤ 9223372036854775807 := by omega
theorem nm_wrap (n m a : Nat) (h : n + m ≤ a) (ha : a ≤ 2 ^ 63 - 1) : wrap64 ((n : Int) + m) = ((n + m : Nat) : Int) := (IntWalk.wrap64_in ((n : Int) + m) ⟨by omega, nm_le n m a h ha⟩).trans (by omega)
end Go.Proofs.Ytfgfkiifekeeaaa
