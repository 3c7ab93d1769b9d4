/- Package utf: Count, Check, Plain, Cut. -/
import Derived.Test.YtonokkcnbbljoaaUall
namespace Go.Proofs.Ytonokkcnbbljoaa
open Go.RowKit Go.Shelf
attribute [local go_sem] Oper.semAt_some
set_option linter.unusedSimpArgs false
set_option linter.unusedVariables false

theorem size_list0 (s : ByteArray) (h : s.size = 0) : s.data.toList = [] := List.eq_nil_of_length_eq_zero (by rw [list_size]; exact h)
theorem uScan_len (s : List UInt8) : (uScan s).length ≤ s.length := by
  refine uInd (C := fun s => (uScan s).length ≤ s.length) ?_ ?_ s
  · rw [uScan_nil]; exact Nat.le_refl _
  · intro s hs ih
    rw [uScan_cons s hs, List.length_cons]
    have := drop_lt s hs
    omega
set_option maxRecDepth 100000 in
set_option maxHeartbeats 4000000 in
theorem utf_Count_any (s : ByteArray) (hs : s.size ≤ maxLen) (w : World) : Calls Try.prog 13 #[.string s] w fun e w' => e = .returned (.int .i64 (uScan s.data.toList).length) ∧ Below w.heap.size w w' := by
  refine (callsIn_wide (n := 3)).1 ?_
  refine callsIn_of_wp_marks Try.func13 rfl trivial ?_ rfl
  simp only [Try.ntmps13, List.size_toArray, List.length_cons, List.length_nil, Nat.reduceAdd, Nat.reduceSub, Array.replicate_succ, Array.replicate_zero, List.push_toArray, List.append_toArray, List.nil_append, List.cons_append]
  gi_wp2_with fail
  generalize hV : World.alloc w _ = w0
  have hb0 : Below w.heap.size w w0 := by subst hV; (repeat (first | with_reducible exact Below.refl _ _ | with_reducible assumption | with_reducible refine Below.drew ?_ | with_reducible refine Below.drewN ?_ _ | with_reducible refine Below.alloc1 ?_ _ | with_reducible refine Below.setCell1 ?_ (by first | omega | (simp; done) | (simp; omega)) _ | with_reducible refine Below.step ?_ (by with_reducible assumption)))
  have k1 : Bk w0 w.heap.size 3 [.int .i64 0] := by subst hV; (repeat (first | with_reducible exact Bk.new' _ _ _ _ (by simp; done) | with_reducible assumption | with_reducible refine Bk.alloc ?_ _ | with_reducible refine Bk.drew ?_ | with_reducible refine Bk.drewN ?_ _ | with_reducible refine Bk.step ?_ (by with_reducible assumption) | with_reducible refine Bk.far ?_ (by first | omega | (simp; done) | (simp; omega)) _))
  clear hV
  refine ⟨trivial, (callsIn_wide.2 (utf_all_any s _)).mono ?_⟩; rintro e w1 ⟨rfl, hb1, kB⟩
  have hne : w.heap.size ≠ w0.heap.size := Nat.ne_of_lt k1.lt
  have hBw0 : w.heap.size ≤ w0.heap.size := hb0.size
  replace k1 := k1.step hb1
  replace hb0 := hb0.step hb1
  clear hb1
  generalize w0.heap.size = B at *
  gi_wp2_with fail
  refine wpIn_all rfl rfl s hs kB
    (fun r W => ∃ n : Nat, n + (uScan r.data.toList).length = (uScan s.data.toList).length ∧ Bk W w.heap.size 3 [.int .i64 n] ∧ Below w.heap.size w W)
    (fun _ _ => False) (fun r W1 W2 ⟨n, e, k, b⟩ hb => ⟨n, e, k.step hb, b.step hb⟩) (fun r W1 v ⟨n, e, k, b⟩ => ⟨n, e, k.far hne v, b.setCell1 hBw0 v⟩)
    (fun r W l o o' ⟨n, e, k, b⟩ hl h ho => ⟨n, e, k.put o' h ho, below_put b o' (Nat.le_trans hb0.size hl)⟩)
    (fun _ _ _ _ _ h _ _ _ => h) ⟨0, by omega, k1, hb0⟩ _ (fun l c m W K hK => by gi_wp2; exact hK) ?body ?done ?stop
  case body =>
    rintro l r c m W hr hrz hu ⟨n, e, k, b⟩ kr
    have k_0 := k.cell 0; have k_f0 := k.frozen 0; simp only [List.set_cons_zero, List.set_cons_succ, List.getElem?_cons_zero, List.getElem?_cons_succ] at k_0; have lt_k := k.lt
    have hsc := uScan_cons r.data.toList (list_ne r hrz)
    have hl1 := uScan_len s.data.toList
    rw [list_size] at hl1
    unfold maxLen at hs
    have hl2 := hide (congrArg List.length hsc)
    have hn2 : (n : Int) + 1 ≤ 9223372036854775807 := by
      have := hl2.out
      rw [List.length_cons] at this
      omega
    have hwr : wrap64 ((n : Int) + 1) = ((n + 1 : Nat) : Int) := (IntWalk.wrap64_in ((n : Int) + 1) ⟨by omega, hn2⟩).trans (by omega)
    clear hsc
    gi_wp2
    refine ⟨KeepsOthers.setCell _ _ _, kr.far (Ne.symm hne) _, n + 1, ?_, by first | exact k.set_ 0 _ | (rw [hwr]; exact k.set_ 0 _), b.setCell1 (Nat.le_refl _) _⟩
    rw [nx_list]
    have := hl2.out
    rw [List.length_cons] at this
    omega
  case done =>
    rintro D r W hD hz ⟨n, e, k, b⟩ hK
    rw [size_list0 r hz, uScan_nil] at e
    have k_0 := k.cell 0; have k_f0 := k.frozen 0; simp only [List.set_cons_zero, List.set_cons_succ, List.getElem?_cons_zero, List.getElem?_cons_succ] at k_0; have lt_k := k.lt
    gi_wp2
    refine ⟨by simp, .inl ⟨_, _, rfl, run_takeDeferred hK, ?_⟩⟩
    refine ⟨_, results_tmp rfl _ _ _, by rw [← e]; rfl, below_put b _ (Nat.le_trans hb0.size hD)⟩
  case stop => exact fun D c W _ h _ => h.elim
set_option maxRecDepth 100000 in
set_option maxHeartbeats 4000000 in
theorem utf_Check_any (s : ByteArray) (hs : s.size ≤ maxLen) (w : World) : Calls Try.prog 15 #[.string s] w fun e w' => e = .returned (.int .i64 (if uBad s.data.toList then 11 else 0)) ∧ Below w.heap.size w w' := by
  obtain ⟨R, hR⟩ : ∃ R : Int, R = if uBad s.data.toList then 11 else 0 := ⟨_, rfl⟩
  rw [← hR]
  replace hR := hide hR
  refine (callsIn_wide (n := 3)).1 ?_
  refine callsIn_of_wp_marks Try.func15 rfl trivial ?_ rfl
  simp only [Try.ntmps15, List.size_toArray, List.length_cons, List.length_nil, Nat.reduceAdd, Nat.reduceSub, Array.replicate_succ, Array.replicate_zero, List.push_toArray, List.append_toArray, List.nil_append, List.cons_append]
  gi_wp2_with fail
  generalize hV : World.alloc w _ = w0
  have hb0 : Below w.heap.size w w0 := by subst hV; (repeat (first | with_reducible exact Below.refl _ _ | with_reducible assumption | with_reducible refine Below.drew ?_ | with_reducible refine Below.drewN ?_ _ | with_reducible refine Below.alloc1 ?_ _ | with_reducible refine Below.setCell1 ?_ (by first | omega | (simp; done) | (simp; omega)) _ | with_reducible refine Below.step ?_ (by with_reducible assumption)))
  have k1 : Bk w0 w.heap.size 26 [.int .i64 0] := by subst hV; (repeat (first | with_reducible exact Bk.new' _ _ _ _ (by simp; done) | with_reducible assumption | with_reducible refine Bk.alloc ?_ _ | with_reducible refine Bk.drew ?_ | with_reducible refine Bk.drewN ?_ _ | with_reducible refine Bk.step ?_ (by with_reducible assumption) | with_reducible refine Bk.far ?_ (by first | omega | (simp; done) | (simp; omega)) _))
  clear hV
  refine ⟨trivial, (callsIn_wide.2 (utf_all_any s _)).mono ?_⟩; rintro e w1 ⟨rfl, hb1, kB⟩
  have hne : w.heap.size ≠ w0.heap.size := Nat.ne_of_lt k1.lt
  have hBw0 : w.heap.size ≤ w0.heap.size := hb0.size
  replace k1 := k1.step hb1
  replace hb0 := hb0.step hb1
  clear hb1
  generalize w0.heap.size = B at *
  gi_wp2_with fail
  refine wpIn_all rfl rfl s hs kB
    (fun r W => uBad r.data.toList = uBad s.data.toList ∧ Bk W w.heap.size 26 [.int .i64 0] ∧ Below w.heap.size w W)
    (fun c W => c = .ret ∧ uBad s.data.toList = true ∧ Bk W w.heap.size 26 [.int .i64 11] ∧ Below w.heap.size w W) (fun r W1 W2 ⟨e, k, b⟩ hb => ⟨e, k.step hb, b.step hb⟩) (fun r W1 v ⟨e, k, b⟩ => ⟨e, k.far hne v, b.setCell1 hBw0 v⟩)
    (fun r W l o o' ⟨e, k, b⟩ hl h ho => ⟨e, k.put o' h ho, below_put b o' (Nat.le_trans hb0.size hl)⟩)
    (fun c W l o o' ⟨e1, e, k, b⟩ hl h ho => ⟨e1, e, k.put o' h ho, below_put b o' (Nat.le_trans hb0.size hl)⟩) ⟨rfl, k1, hb0⟩ _ (fun l c m W K hK => by gi_wp2; exact hK) ?body ?done ?stop
  case body =>
    rintro l r c m W hr hrz hu ⟨e, k, b⟩ kr
    have k_0 := k.cell 0; have k_f0 := k.frozen 0; simp only [List.set_cons_zero, List.set_cons_succ, List.getElem?_cons_zero, List.getElem?_cons_succ] at k_0; have lt_k := k.lt
    have hE := uBad_cons r.data.toList (list_ne r hrz)
    rw [hu] at hE
    dsimp only at hE
    rw [e] at hE
    have HE := hide hE
    clear hE e
    by_cases hc : c = -1
    · subst hc
      gi_wp2
      exact ⟨KeepsOthers.setCell _ _ _, rfl, by rw [HE.out]; rfl, k.set_ 0 _, b.setCell1 (Nat.le_refl _) _⟩
    · have hcf : ((c == -1) : Bool) = false := by simp [hc]
      gi_wp2
      refine ⟨KeepsOthers.refl _, kr, ?_, k, b⟩
      rw [nx_list, hu, HE.out, hcf]; rfl
  case done =>
    rintro D r W hD hz ⟨e, k, b⟩ hK
    rw [size_list0 r hz, uBad_nil] at e
    replace e := hide e
    have k_0 := k.cell 0; have k_f0 := k.frozen 0; simp only [List.set_cons_zero, List.set_cons_succ, List.getElem?_cons_zero, List.getElem?_cons_succ] at k_0; have lt_k := k.lt
    gi_wp2
    have hK2 := (KeepsOthers.setCell W ⟨w.heap.size, 0, none⟩ (.int .i64 0)).same D _ hK rfl
    have k2 := (k.set_ 0 (.int .i64 0)).put (.deferred none) hK2 rfl
    refine ⟨by simp, .inl ⟨_, _, rfl, run_takeDeferred hK2, ?_⟩⟩
    have k2_0 := k2.cell 0
    refine ⟨.int .i64 0, ?_, by rw [hR.out, ← e.out]; rfl, below_put (b.setCell1 (Nat.le_refl _) _) _ (Nat.le_trans hb0.size hD)⟩
    simp [results, Try.f15, go_sem, k2_0]
  case stop =>
    rintro D c W hD ⟨rfl, e, k, b⟩ hK
    replace e := hide e
    gi_wp2
    have k2 := k.put (.deferred none) hK rfl
    refine ⟨by simp, .inl ⟨_, _, rfl, run_takeDeferred hK, ?_⟩⟩
    have k2_0 := k2.cell 0
    refine ⟨.int .i64 11, ?_, by rw [hR.out, e.out]; rfl, below_put b _ (Nat.le_trans hb0.size hD)⟩
    simp [results, Try.f15, go_sem, k2_0]
set_option maxRecDepth 100000 in
set_option maxHeartbeats 4000000 in
theorem utf_Plain_any (s : ByteArray) (hs : s.size ≤ maxLen) (w : World) : Calls Try.prog 21 #[.string s] w fun e w' => e = .returned (.bool (uPlain s.data.toList)) ∧ Below w.heap.size w w' := by
  refine (callsIn_wide (n := 3)).1 ?_
  refine callsIn_of_wp_marks Try.func21 rfl trivial ?_ rfl
  simp only [Try.ntmps21, List.size_toArray, List.length_cons, List.length_nil, Nat.reduceAdd, Nat.reduceSub, Array.replicate_succ, Array.replicate_zero, List.push_toArray, List.append_toArray, List.nil_append, List.cons_append]
  gi_wp2_with fail
  generalize hV : World.alloc w _ = w0
  have hb0 : Below w.heap.size w w0 := by subst hV; (repeat (first | with_reducible exact Below.refl _ _ | with_reducible assumption | with_reducible refine Below.drew ?_ | with_reducible refine Below.drewN ?_ _ | with_reducible refine Below.alloc1 ?_ _ | with_reducible refine Below.setCell1 ?_ (by first | omega | (simp; done) | (simp; omega)) _ | with_reducible refine Below.step ?_ (by with_reducible assumption)))
  have k1 : Bk w0 w.heap.size 4 [.bool false] := by subst hV; (repeat (first | with_reducible exact Bk.new' _ _ _ _ (by simp; done) | with_reducible assumption | with_reducible refine Bk.alloc ?_ _ | with_reducible refine Bk.drew ?_ | with_reducible refine Bk.drewN ?_ _ | with_reducible refine Bk.step ?_ (by with_reducible assumption) | with_reducible refine Bk.far ?_ (by first | omega | (simp; done) | (simp; omega)) _))
  clear hV
  refine ⟨trivial, (callsIn_wide.2 (utf_all_any s _)).mono ?_⟩; rintro e w1 ⟨rfl, hb1, kB⟩
  have hne : w.heap.size ≠ w0.heap.size := Nat.ne_of_lt k1.lt
  have hBw0 : w.heap.size ≤ w0.heap.size := hb0.size
  replace k1 := k1.step hb1
  replace hb0 := hb0.step hb1
  clear hb1
  generalize w0.heap.size = B at *
  gi_wp2_with fail
  refine wpIn_all rfl rfl s hs kB
    (fun r W => uPlain r.data.toList = uPlain s.data.toList ∧ Bk W w.heap.size 4 [.bool false] ∧ Below w.heap.size w W)
    (fun c W => c = .ret ∧ uPlain s.data.toList = false ∧ Bk W w.heap.size 4 [.bool false] ∧ Below w.heap.size w W) (fun r W1 W2 ⟨e, k, b⟩ hb => ⟨e, k.step hb, b.step hb⟩) (fun r W1 v ⟨e, k, b⟩ => ⟨e, k.far hne v, b.setCell1 hBw0 v⟩)
    (fun r W l o o' ⟨e, k, b⟩ hl h ho => ⟨e, k.put o' h ho, below_put b o' (Nat.le_trans hb0.size hl)⟩)
    (fun c W l o o' ⟨e1, e, k, b⟩ hl h ho => ⟨e1, e, k.put o' h ho, below_put b o' (Nat.le_trans hb0.size hl)⟩) ⟨rfl, k1, hb0⟩ _ (fun l c m W K hK => by gi_wp2; exact hK) ?body ?done ?stop
  case body =>
    rintro l r c m W hr hrz hu ⟨e, k, b⟩ kr
    have k_0 := k.cell 0; have k_f0 := k.frozen 0; simp only [List.set_cons_zero, List.set_cons_succ, List.getElem?_cons_zero, List.getElem?_cons_succ] at k_0; have lt_k := k.lt
    have hE := uPlain_cons r.data.toList (list_ne r hrz)
    rw [hu] at hE
    dsimp only at hE
    rw [e] at hE
    have HE := hide hE
    clear hE e
    have hctl : uCtl c = (decide (c < 32) || decide (c = 127)) := rfl
    by_cases hc : c < 32
    · have hE2 := hide (show uPlain s.data.toList = false by rw [HE.out, hctl, decide_eq_true hc]; rfl)
      clear HE hctl
      gi_wp2
      exact ⟨KeepsOthers.setCell _ _ _, rfl, by rw [hE2.out], k.set_ 0 _, b.setCell1 (Nat.le_refl _) _⟩
    have hc2 : 32 ≤ c := by omega
    by_cases hc1 : c = 127
    · subst hc1
      gi_wp2
      exact ⟨KeepsOthers.setCell _ _ _, rfl, by rw [HE.out]; rfl, k.set_ 0 _, b.setCell1 (Nat.le_refl _) _⟩
    · have hE2 := hide (show uPlain s.data.toList = uPlain (r.data.toList.drop m) by rw [HE.out, hctl, decide_eq_false hc, decide_eq_false hc1]; rfl)
      have hcf : ((c == 127) : Bool) = false := by simp [hc1]
      clear HE hctl
      gi_wp2
      refine ⟨KeepsOthers.refl _, kr, ?_, k, b⟩
      rw [nx_list, hu, hE2.out]
  case done =>
    rintro D r W hD hz ⟨e, k, b⟩ hK
    rw [size_list0 r hz, uPlain_nil] at e
    replace e := hide e
    have k_0 := k.cell 0; have k_f0 := k.frozen 0; simp only [List.set_cons_zero, List.set_cons_succ, List.getElem?_cons_zero, List.getElem?_cons_succ] at k_0; have lt_k := k.lt
    gi_wp2
    have hK2 := (KeepsOthers.setCell W ⟨w.heap.size, 0, none⟩ (.bool true)).same D _ hK rfl
    have k2 := (k.set_ 0 (.bool true)).put (.deferred none) hK2 rfl
    refine ⟨by simp, .inl ⟨_, _, rfl, run_takeDeferred hK2, ?_⟩⟩
    have k2_0 := k2.cell 0
    refine ⟨.bool true, ?_, by rw [← e.out] <;> rfl, below_put (b.setCell1 (Nat.le_refl _) _) _ (Nat.le_trans hb0.size hD)⟩
    simp [results, Try.f21, go_sem, k2_0]
  case stop =>
    rintro D c W hD ⟨rfl, e, k, b⟩ hK
    replace e := hide e
    gi_wp2
    have k2 := k.put (.deferred none) hK rfl
    refine ⟨by simp, .inl ⟨_, _, rfl, run_takeDeferred hK, ?_⟩⟩
    have k2_0 := k2.cell 0
    refine ⟨.bool false, ?_, by rw [e.out] <;> rfl, below_put b _ (Nat.le_trans hb0.size hD)⟩
    simp [results, Try.f21, go_sem, k2_0]
theorem cut_step (l : List UInt8) (n m q : Nat) (most : Int) (h : n + (m + uCut l (most - n - m)) = q) : n + m + uCut l (most - ((n + m : Nat) : Int)) = q := by
  rw [show most - ((n + m : Nat) : Int) = most - n - m by omega]
  omega
theorem rest_step (n m a b : Nat) (h : m ≤ a) (h2 : n + a = b) : n + m + (a - m) = b := by omega
theorem most_step (n m : Nat) (most : Int) (h : (m : Int) ≤ most - n) : ((n + m : Nat) : Int) ≤ most := by omega
theorem nm_le (n m a : Nat) (h : n + m ≤ a) (ha : a ≤ 2 ^ 63 - 1) : (n : Int) + m ≤ 9223372036854775807 := by omega
theorem nm_wrap (n m a : Nat) (h : n + m ≤ a) (ha : a ≤ 2 ^ 63 - 1) : wrap64 ((n : Int) + m) = ((n + m : Nat) : Int) := (IntWalk.wrap64_in ((n : Int) + m) ⟨by omega, nm_le n m a h ha⟩).trans (by omega)
set_option maxRecDepth 100000 in
set_option maxHeartbeats 4000000 in
theorem utf_Cut_any (s : ByteArray) (hs : s.size ≤ maxLen) (most : Int) (hm : -9223372036854775808 ≤ most ∧ most ≤ 9223372036854775807) (w : World) : Calls Try.prog 17 #[.string s, .int .i64 most] w fun e w' => e = .returned (.string (s.extract 0 (uCut s.data.toList most))) ∧ Below w.heap.size w w' := by
  obtain ⟨q, hq⟩ : ∃ q, q = uCut s.data.toList most := ⟨_, rfl⟩
  rw [← hq]
  have hl1 := uCut_len s.data.toList most
  have hle := uCut_le s.data.toList most
  rw [← hq, list_size] at hl1 hle
  replace hle := hide hle
  replace hq := hide hq
  refine (callsIn_wide (n := 3)).1 ?_
  refine callsIn_of_wp_marks Try.func17 rfl trivial ?_ rfl
  simp only [Try.ntmps17, List.size_toArray, List.length_cons, List.length_nil, Nat.reduceAdd, Nat.reduceSub, Array.replicate_succ, Array.replicate_zero, List.push_toArray, List.append_toArray, List.nil_append, List.cons_append]
  gi_wp2_with fail
  generalize hV : World.alloc (World.alloc w _) _ = w0
  have hb0 : Below w.heap.size w w0 := by subst hV; (repeat (first | with_reducible exact Below.refl _ _ | with_reducible assumption | with_reducible refine Below.drew ?_ | with_reducible refine Below.drewN ?_ _ | with_reducible refine Below.alloc1 ?_ _ | with_reducible refine Below.setCell1 ?_ (by first | omega | (simp; done) | (simp; omega)) _ | with_reducible refine Below.step ?_ (by with_reducible assumption)))
  have k0 : Bk w0 w.heap.size 3 [.int .i64 most] := by subst hV; exact (Bk.new w _ [_]).alloc _
  have k1 : Bk w0 (w.heap.size + 1) 3 [.int .i64 0] := by subst hV; exact Bk.new' _ _ [_] _ (by simp)
  clear hV
  refine ⟨trivial, (callsIn_wide.2 (utf_all_any s _)).mono ?_⟩; rintro e w1 ⟨rfl, hb1, kB⟩
  have hne0 : w.heap.size ≠ w0.heap.size := Nat.ne_of_lt k0.lt
  have hne : w.heap.size + 1 ≠ w0.heap.size := Nat.ne_of_lt k1.lt
  have hBw0 : w.heap.size ≤ w0.heap.size := hb0.size
  replace k0 := k0.step hb1
  replace k1 := k1.step hb1
  replace hb0 := hb0.step hb1
  clear hb1
  generalize w0.heap.size = B at *
  unfold maxLen at hs
  gi_wp2_with fail
  refine wpIn_all rfl rfl s (by unfold maxLen; omega) kB
    (fun r W => ∃ n : Nat, n + uCut r.data.toList (most - n) = q ∧ n + r.size = s.size ∧ (0 < n → n ≤ most) ∧ Bk W w.heap.size 3 [.int .i64 most] ∧ Bk W (w.heap.size + 1) 3 [.int .i64 n] ∧ Below w.heap.size w W)
    (fun c W => c = .exit 0 ∧ Bk W (w.heap.size + 1) 3 [.int .i64 q] ∧ Below w.heap.size w W)
    (fun r W1 W2 ⟨n, e, e2, e3, kk, k, b⟩ hb => ⟨n, e, e2, e3, kk.step hb, k.step hb, b.step hb⟩) (fun r W1 v ⟨n, e, e2, e3, kk, k, b⟩ => ⟨n, e, e2, e3, kk.far hne0 v, k.far hne v, b.setCell1 hBw0 v⟩)
    (fun r W l o o' ⟨n, e, e2, e3, kk, k, b⟩ hl h ho => ⟨n, e, e2, e3, kk.put o' h ho, k.put o' h ho, below_put b o' (Nat.le_trans hb0.size hl)⟩)
    (fun c W l o o' ⟨e1, k, b⟩ hl h ho => ⟨e1, k.put o' h ho, below_put b o' (Nat.le_trans hb0.size hl)⟩) ⟨0, by rw [hq.out]; simp, by simp, by omega, k0, k1, hb0⟩ _ (fun l c m W K hK => by gi_wp2; exact hK) ?body ?done ?stop
  case body =>
    rintro l r c m W hr hrz hu ⟨n, e, e2, e3, kk, k, b⟩ kr
    have kk_0 := kk.cell 0; have kk_f0 := kk.frozen 0; simp only [List.set_cons_zero, List.set_cons_succ, List.getElem?_cons_zero, List.getElem?_cons_succ] at kk_0; have lt_kk := kk.lt; have k_0 := k.cell 0; have k_f0 := k.frozen 0; simp only [List.set_cons_zero, List.set_cons_succ, List.getElem?_cons_zero, List.getElem?_cons_succ] at k_0; have lt_k := k.lt
    have hE := uCut_cons r.data.toList (list_ne r hrz) (most - n)
    have hz := uNext_size r.data.toList
    rw [hu, list_size] at hz
    have hz1 := hz.2.1 (list_ne r hrz)
    rw [hu] at hE
    dsimp only at hE hz hz1
    have HE := hide hE
    clear hE
    have HN := hide (nx_list r)
    have HS := hide (nx_size r)
    rw [hu] at HN HS
    dsimp only at HN HS
    have e' := hide e
    clear e hu
    unfold maxLen at hr
    have hw : wrap64 (most - (n : Int)) = most - n ∨ most - (n : Int) < -9223372036854775808 := by
      by_cases h : -9223372036854775808 ≤ most - (n : Int)
      · exact .inl (IntWalk.wrap64_in _ ⟨h, by omega⟩)
      · exact .inr (by omega)
    have hw1 : -9223372036854775808 ≤ most - (n : Int) := by
      rcases Nat.eq_zero_or_pos n with h | h
      · subst h; simpa using hm.1
      · have := e3 h; omega
    have hw2 : wrap64 (most - (n : Int)) = most - n := by
      rcases hw with h | h
      · exact h
      · omega
    have hw2b : IntKind.i64.wrap (most - (n : Int)) = most - n := IntWalk.i64_in _ (by omega)
    clear hw
    by_cases hfit : most - (n : Int) < (m : Int)
    · gi_wp2
      refine ⟨KeepsOthers.refl _, rfl, ?_, b⟩
      have := HE.out
      rw [if_pos hfit] at this
      have e4 := e'.out
      rw [this] at e4
      rw [← e4]; exact k
    · have hfit2 : (m : Int) ≤ most - (n : Int) := by omega
      have hnm : n + m ≤ s.size := by have := hz.1; clear hw1 hw2 hw2b hfit hfit2 e3 hm hs; omega
      have hbn := nm_le n m s.size hnm hs
      have hwn := nm_wrap n m s.size hnm hs
      gi_wp2
      refine ⟨KeepsOthers.setCell _ _ _, kr.far (Ne.symm hne) _, n + m, ?_, ?_, ?_, kk.far (by simp) _, by first | exact k.set_ 0 _ | (rw [hwn]; exact k.set_ 0 _), b.setCell1 (by simp) _⟩
      · rw [HN.out]
        have := HE.out
        rw [if_neg (Int.not_lt.2 hfit2)] at this
        have e4 := e'.out
        rw [this] at e4
        exact cut_step _ n m q most e4
      · rw [HS.out]; exact rest_step n m r.size s.size hz.1 e2
      · intro _; exact most_step n m most hfit2
  case done =>
    rintro D r W hD hz ⟨n, e, e2, e3, kk, k, b⟩ hK
    rw [size_list0 r hz, uCut_nil] at e
    obtain rfl : n = q := by omega
    clear e e2 e3
    have k_0 := k.cell 0; have k_f0 := k.frozen 0; simp only [List.set_cons_zero, List.set_cons_succ, List.getElem?_cons_zero, List.getElem?_cons_succ] at k_0; have lt_k := k.lt
    gi_wp2
    refine ⟨by simp, .inl ⟨_, _, rfl, run_takeDeferred hK, ?_⟩⟩
    exact ⟨_, results_tmp rfl _ _ _, rfl, below_put b _ (Nat.le_trans hb0.size hD)⟩
  case stop =>
    rintro D c W hD ⟨rfl, k, b⟩ hK
    have k_0 := k.cell 0; have k_f0 := k.frozen 0; simp only [List.set_cons_zero, List.set_cons_succ, List.getElem?_cons_zero, List.getElem?_cons_succ] at k_0; have lt_k := k.lt
    gi_wp2
    refine ⟨by simp, .inl ⟨_, _, rfl, run_takeDeferred hK, ?_⟩⟩
    exact ⟨_, results_tmp rfl _ _ _, rfl, below_put b _ (Nat.le_trans hb0.size hD)⟩
end Go.Proofs.Ytonokkcnbbljoaa
