/- Package batch: Take, Forget. -/
import Derived.Test.YtfgfkiifekeeaaaBa2
namespace Go.Proofs.Ytfgfkiifekeeaaa
open Go.RowKit Go.Shelf
set_option linter.unusedSimpArgs false
set_option linter.unusedVariables false

/-- st[:k:k] of a slice that may be nil -/
theorem to_runB {P : Program} {t e : TypeId} {size : Nat} (ht : P.underlying t = some (.slice e)) (he : P.elem t = e) (hs : ∀ W, (sizeOf e).run P W = .ok size W) (A : Option Addr) (k n c : Nat) (hk : k ≤ c) :
    (∀ W, (Instr.slice t (.slice A n c) none (some (.int .i64 (k : Int))) (some (.int .i64 (k : Int)))).run P W = .ok (.slice A k k) W) ∧ (∀ W, (Instr.sliceAt t (.slice A n c) none (some (.int .i64 (k : Int))) (some (.int .i64 (k : Int)))).run P W = .ok (.slice A k k) W) := by
  have hu : P.underlying t = some (.slice (P.elem t)) := by rw [he]; exact ht
  have hb : (∀ W, (Instr.slice t (.slice A n c) none (some (.int .i64 (k : Int))) (some (.int .i64 (k : Int)))).run P W = .ok (.slice A k k) W) := fun W => by
    rw [run_slice_hm (ht := hu) (h0 := by omega) (h2 := by omega) (h3 := by omega), he, hs]
    have hm : A.map (fun a : Addr => a.add 0) = A := by cases A <;> simp [Addr.add]
    by_cases h1 : k = 0 <;> simp [sliced, h1, hm]
  exact ⟨hb, fun W => (run_sliceAt_slice W _ _ _ _ _ hu).trans (hb W)⟩
def TakePost (w : World) (x : Bs × List Pb) (e : Ending) (w' : World) : Prop := ∃ V A c, e = .returned (.tuple #[V, .slice A x.2.length c]) ∧ BsAt w' V x.1 ∧ x.2.length ≤ c ∧ Rd w' w'.heap.size A (pbs x.2) ∧ Below w.heap.size w w'
theorem bCut_le (n : Int) (m : Nat) : bCut n m ≤ m ∧ max 0 (min n (m : Int)) = (bCut n m : Int) := by unfold bCut; omega
set_option maxRecDepth 1000000 in
set_option maxHeartbeats 8000000 in
theorem batch_Take_any (A : Option Addr) (c : Nat) (l : List Pb) (a s n : Int) (w : World) (hl : l.length ≤ 1000) (hc : l.length ≤ c) (hS : ∀ x ∈ l, Sm x) (hm : MW w) (ha : Rd w w.heap.size A (pbs l)) :
    Calls Try.prog 12 #[bsV A l.length c a s, .int .i64 n] w (TakePost w (bTake ⟨l, a, s⟩ n)) := by
  have HC := fun (W : World) (h : Below w.heap.size w W) => batch_Check_any A c l a s W hl hc hS (hm.step h) ((ha.below h).more h.size)
  obtain ⟨R, hR⟩ : ∃ R, R = bTake ⟨l, a, s⟩ n := ⟨_, rfl⟩
  rw [← hR]
  unfold bTake at hR
  dsimp only at hR
  have hok : bCheck ⟨l, a, s⟩ = 0 → Hid (l.length ≤ 64 ∧ bIn a = true) := fun h => ⟨(bCheck_ok h).1, (bCheck_ok h).2.2.2.1⟩
  obtain ⟨hk1, hk2⟩ := bCut_le n l.length
  generalize bCheck ⟨l, a, s⟩ = C at *
  generalize bCut n l.length = k at *
  replace hR := hide hR
  replace hok := hide hok
  have hel : Try.prog.elem 29 = 60 := by kernel_rfl
  have hsz : ∀ W, (sizeOf 60).run Try.prog W = .ok 2 W := fun W => by kernel_rfl
  obtain ⟨A2, hA2, sf1, sf2⟩ := from_runA Try.underlying29 hel hsz A k l.length c (k : Int) rfl hk1 hc
  obtain ⟨st1, st2⟩ := to_runB Try.underlying29 hel hsz A k l.length c (by omega)
  have HA2 := hide hA2
  have HK2 := hide hk2
  clear hA2 hk2 hsz hel
  go_enter Try.func12, Try.ntmps12
  go_wp2_with fail
  generalize hV : World.alloc (World.alloc w _) _ = w1
  have hb : Below w.heap.size w w1 := by subst hV; (repeat (first | with_reducible exact Below.refl _ _ | with_reducible assumption | with_reducible refine Below.drew ?_ | with_reducible refine Below.drewN ?_ _ | with_reducible refine Below.alloc1 ?_ _ | with_reducible refine Below.setCell1 ?_ (by first | omega | (simp; done) | (simp; omega)) _ | with_reducible refine Below.step ?_ (by with_reducible assumption)))
  have k3 : Bk w1 w.heap.size 31 (bsC A l.length c a s) := by subst hV; (repeat (first | with_reducible exact Bk.new' _ _ _ _ (by simp; done) | with_reducible assumption | with_reducible refine Bk.alloc ?_ _ | with_reducible refine Bk.drew ?_ | with_reducible refine Bk.drewN ?_ _ | with_reducible refine Bk.step ?_ (by with_reducible assumption) | with_reducible refine Bk.far ?_ (by first | omega | (simp; done) | (simp; omega)) _))
  have k6 : Bk w1 (w.heap.size + 1) 31 (bsC none 0 0 0 0) := by subst hV; (repeat (first | with_reducible exact Bk.new' _ _ _ _ (by simp; done) | with_reducible assumption | with_reducible refine Bk.alloc ?_ _ | with_reducible refine Bk.drew ?_ | with_reducible refine Bk.drewN ?_ _ | with_reducible refine Bk.step ?_ (by with_reducible assumption) | with_reducible refine Bk.far ?_ (by first | omega | (simp; done) | (simp; omega)) _))
  clear hV
  refine (HC _ hb).mono ?_; rintro e w2 ⟨rfl, hx⟩
  replace hb := hb.step hx
  replace k3 := k3.step hx
  replace k6 := k6.step hx
  clear hx HC
  have k3_0 := k3.cell 0; have k3_f0 := k3.frozen 0; have k3_1 := k3.cell 1; have k3_f1 := k3.frozen 1; have k3_2 := k3.cell 2; have k3_f2 := k3.frozen 2; simp only [List.set_cons_zero, List.set_cons_succ, List.getElem?_cons_zero, List.getElem?_cons_succ] at k3_0 k3_1 k3_2; have lt_k3 := k3.lt; have k6_0 := k6.cell 0; have k6_f0 := k6.frozen 0; have k6_1 := k6.cell 1; have k6_f1 := k6.frozen 1; have k6_2 := k6.cell 2; have k6_f2 := k6.frozen 2; simp only [List.set_cons_zero, List.set_cons_succ, List.getElem?_cons_zero, List.getElem?_cons_succ] at k6_0 k6_1 k6_2; have lt_k6 := k6.lt
  by_cases hC0 : C ≠ 0
  · have e0 : (C != 0) = true := by simpa using hC0
    replace hR := hide (hR.out.trans (if_pos hC0))
    clear hC0 hok st1 st2 sf1 sf2
    go_wp2_with (first | (refine wpList_store_row rfl 31 _ _ rfl _ (bsC A l.length c a s).toArray rfl rfl _ _ k6 (by kernel_rfl) (by kernel_rfl) (by kernel_rfl) ?_))
    have r6 := k6.srow (bsC A l.length c a s)
    have hbr := srow_below hb (Nat.le_succ w.heap.size) (bsC A l.length c a s).toArray
    exact bodyPost_ret (v := .tuple #[bsV A l.length c a s, .slice none 0 0]) (results_row_val rfl _ _ _ _ _ _ _ rfl rfl r6 Try.underlying31 rfl (by kernel_rfl)) rfl ⟨_, none, 0, by rw [hR.out]; rfl, by rw [hR.out]; exact ⟨A, c, rfl, hc, (ha.below hbr).more hbr.size⟩, by rw [hR.out]; exact Nat.zero_le _, by rw [hR.out]; exact Rd.nil, hbr⟩
  obtain rfl : C = 0 := Classical.not_not.1 hC0
  clear hC0
  have hok2 := hok.out rfl
  replace hR := hide (hR.out.trans (if_neg (fun h => h rfl)))
  clear hok
  have hs := bIn_iff hok2.out.2
  have h64 := hok2.out.1
  obtain ⟨h0, h1⟩ := hs
  have hk2 := HK2.out
  clear hok2 HK2
  go_upto_region 6 with fail
  generalize hV : World.setCell w2 _ _ = w3
  replace hb : Below w.heap.size w w3 := by subst hV; exact hb.setCell (Nat.le_refl _) _
  have kA : Bk w3 w.heap.size 31 (bsC A2 (l.length - k) (c - k) a s) := by subst hV; exact k3.set_ 0 _
  have kB : Bk w3 (w.heap.size + 1) 31 (bsC none 0 0 0 0) := by subst hV; exact k6.far (by dsimp only; omega) _
  clear hV
  (try clear k3_0 k3_f0 k3_1 k3_f1 k3_2 k3_f2 lt_k3) ; (try clear k6_0 k6_f0 k6_1 k6_f1 k6_2 k6_f2 lt_k6)
  clear k3 k6 st1 st2 sf1 sf2 hk2
  have kA_0 := kA.cell 0; have kA_f0 := kA.frozen 0; have kA_1 := kA.cell 1; have kA_f1 := kA.frozen 1; have kA_2 := kA.cell 2; have kA_f2 := kA.frozen 2; simp only [List.set_cons_zero, List.set_cons_succ, List.getElem?_cons_zero, List.getElem?_cons_succ] at kA_0 kA_1 kA_2; have lt_kA := kA.lt; have kB_0 := kB.cell 0; have kB_f0 := kB.frozen 0; have kB_1 := kB.cell 1; have kB_f1 := kB.frozen 1; have kB_2 := kB.cell 2; have kB_f2 := kB.frozen 2; simp only [List.set_cons_zero, List.set_cons_succ, List.getElem?_cons_zero, List.getElem?_cons_succ] at kB_0 kB_1 kB_2; have lt_kB := kB.lt
  go_upto_region 7 with fail
  generalize hV : World.setCell w3 _ _ = w4
  replace hb : Below w.heap.size w w4 := by subst hV; exact hb.setCell (Nat.le_refl _) _
  have kA' : Bk w4 w.heap.size 31 (bsC A2 (l.length - k) (c - k) (min (a + k) 1099511627776) s) := by subst hV; exact kA.set_ 1 _
  have kB' : Bk w4 (w.heap.size + 1) 31 (bsC none 0 0 0 0) := by subst hV; exact kB.far (by dsimp only; omega) _
  clear hV
  (try clear kA_0 kA_f0 kA_1 kA_f1 kA_2 kA_f2 lt_kA) ; (try clear kB_0 kB_f0 kB_1 kB_f1 kB_2 kB_f2 lt_kB)
  clear kA kB
  obtain ⟨kA, _⟩ := And.intro kA' trivial
  obtain ⟨kB, _⟩ := And.intro kB' trivial
  clear kA' kB'
  have kA_0 := kA.cell 0; have kA_f0 := kA.frozen 0; have kA_1 := kA.cell 1; have kA_f1 := kA.frozen 1; have kA_2 := kA.cell 2; have kA_f2 := kA.frozen 2; simp only [List.set_cons_zero, List.set_cons_succ, List.getElem?_cons_zero, List.getElem?_cons_succ] at kA_0 kA_1 kA_2; have lt_kA := kA.lt; have kB_0 := kB.cell 0; have kB_f0 := kB.frozen 0; have kB_1 := kB.cell 1; have kB_f1 := kB.frozen 1; have kB_2 := kB.cell 2; have kB_f2 := kB.frozen 2; simp only [List.set_cons_zero, List.set_cons_succ, List.getElem?_cons_zero, List.getElem?_cons_succ] at kB_0 kB_1 kB_2; have lt_kB := kB.lt
  go_wp2_with (first | (refine wpList_store_row rfl 31 _ _ rfl _ (bsC A2 (l.length - k) (c - k) (min (a + k) 1099511627776) s).toArray rfl rfl _ _ kB (by kernel_rfl) (by kernel_rfl) (by kernel_rfl) ?_))
  have r6 := kB.srow (bsC A2 (l.length - k) (c - k) (min (a + k) 1099511627776) s)
  have hbr := srow_below hb (Nat.le_succ w.heap.size) (bsC A2 (l.length - k) (c - k) (min (a + k) 1099511627776) s).toArray
  have hra := (ha.below hbr).more hbr.size
  refine bodyPost_ret (v := .tuple #[bsV A2 (l.length - k) (c - k) (min (a + k) 1099511627776) s, .slice A k k]) (results_row_val rfl _ _ _ _ _ _ _ rfl rfl r6 Try.underlying31 rfl (by kernel_rfl)) rfl ?_
  refine ⟨bsV A2 (l.length - k) (c - k) (min (a + k) 1099511627776) s, A, k, ?_, ?_, ?_, ?_, hbr⟩
  · rw [hR.out]; simp only [List.length_take, Nat.min_eq_left hk1]
  · rw [hR.out]
    exact ⟨A2, c - k, by simp only [List.length_drop], by simp only [List.length_drop]; omega, by rw [← pbs_drop]; exact HA2.out _ _ _ hra (by rw [pbs_length]; omega)⟩
  · rw [hR.out]; simp only [List.length_take]; omega
  · rw [hR.out]; dsimp only; rw [← pbs_take]; exact hra.take _
theorem batch_Forget1_any (x : Pb) (u : ByteArray) (g : Nat) (w : World) (h0 : Bk w g 9 [.string u]) : Calls Try.prog 35 (#[pbV x] ++ #[.pointer (some ⟨g, 0, none⟩)]) w fun e w' => e = .returned (.bool (decide (x.who = u))) ∧ Below w.heap.size w w' := by
  show Calls Try.prog 35 #[pbV x, .pointer (some ⟨g, 0, none⟩)] w _
  obtain ⟨y, z⟩ := x
  have e0 := str_beq y u
  have q0 : decide (y.data.toList = u.data.toList) = decide (y = u) := by simp only [ba_list]
  rw [q0] at e0
  dsimp only
  generalize decide (y = u) = D at *
  clear q0
  have h0_0 := h0.cell 0; have h0_f0 := h0.frozen 0; simp only [List.set_cons_zero, List.set_cons_succ, List.getElem?_cons_zero, List.getElem?_cons_succ] at h0_0; have lt_h0 := h0.lt
  go_enter Try.func35, Try.ntmps35
  go_wp2
  go_ret
  exact ⟨ret_bool (by first | exact e0 | rfl), by (repeat (first | with_reducible exact Below.refl _ _ | with_reducible assumption | with_reducible refine Below.drew ?_ | with_reducible refine Below.drewN ?_ _ | with_reducible refine Below.alloc1 ?_ _ | with_reducible refine Below.setCell1 ?_ (by first | omega | (simp; done) | (simp; omega)) _ | with_reducible refine Below.step ?_ (by with_reducible assumption)))⟩
def ForgetPost (w : World) (x : Bs) (e : Ending) (w' : World) : Prop := ∃ V, e = .returned V ∧ BsAt w' V x ∧ Below w.heap.size w w'
set_option maxRecDepth 1000000 in
set_option maxHeartbeats 8000000 in
theorem batch_Forget_any (A : Option Addr) (c : Nat) (l : List Pb) (a s : Int) (u : ByteArray) (w : World) (hl : l.length ≤ 1000) (hc : l.length ≤ c) (hS : ∀ x ∈ l, Sm x) (hm : MW w) (ha : Rd w w.heap.size A (pbs l)) :
    Calls Try.prog 18 #[bsV A l.length c a s, .string u] w (ForgetPost w (bForget ⟨l, a, s⟩ u)) := by
  have HC := fun (W : World) (h : Below w.heap.size w W) => batch_Check_any A c l a s W hl hc hS (hm.step h) ((ha.below h).more h.size)
  have HK := fun (W : World) (h : Below w.heap.size w W) => pb_Clone A c l W hl ((ha.below h).more h.size)
  have eg : ∀ args w, (callFunc 35 args).run Try.prog w = .ok (.enter 35 args) w := enters_of Try.func35 (by kernel_rfl) rfl
  obtain ⟨R, hR⟩ : ∃ R, R = bForget ⟨l, a, s⟩ u := ⟨_, rfl⟩
  rw [← hR]
  unfold bForget at hR
  dsimp only at hR
  generalize bCheck ⟨l, a, s⟩ = C at *
  replace hR := hide hR
  replace eg := hide eg
  go_enter Try.func18, Try.ntmps18
  go_wp2_with fail
  generalize hV : World.alloc (World.alloc (World.alloc w _) _) _ = w1
  have hb : Below w.heap.size w w1 := by subst hV; (repeat (first | with_reducible exact Below.refl _ _ | with_reducible assumption | with_reducible refine Below.drew ?_ | with_reducible refine Below.drewN ?_ _ | with_reducible refine Below.alloc1 ?_ _ | with_reducible refine Below.setCell1 ?_ (by first | omega | (simp; done) | (simp; omega)) _ | with_reducible refine Below.step ?_ (by with_reducible assumption)))
  have k3 : Bk w1 w.heap.size 31 (bsC A l.length c a s) := by subst hV; (repeat (first | with_reducible exact Bk.new' _ _ _ _ (by simp; done) | with_reducible assumption | with_reducible refine Bk.alloc ?_ _ | with_reducible refine Bk.drew ?_ | with_reducible refine Bk.drewN ?_ _ | with_reducible refine Bk.step ?_ (by with_reducible assumption) | with_reducible refine Bk.far ?_ (by first | omega | (simp; done) | (simp; omega)) _))
  have ks : Bk w1 (w.heap.size + 1) 9 [.string u] := by subst hV; (repeat (first | with_reducible exact Bk.new' _ _ _ _ (by simp; done) | with_reducible assumption | with_reducible refine Bk.alloc ?_ _ | with_reducible refine Bk.drew ?_ | with_reducible refine Bk.drewN ?_ _ | with_reducible refine Bk.step ?_ (by with_reducible assumption) | with_reducible refine Bk.far ?_ (by first | omega | (simp; done) | (simp; omega)) _))
  have k6 : Bk w1 (w.heap.size + 1 + 1) 31 (bsC none 0 0 0 0) := by subst hV; (repeat (first | with_reducible exact Bk.new' _ _ _ _ (by simp; done) | with_reducible assumption | with_reducible refine Bk.alloc ?_ _ | with_reducible refine Bk.drew ?_ | with_reducible refine Bk.drewN ?_ _ | with_reducible refine Bk.step ?_ (by with_reducible assumption) | with_reducible refine Bk.far ?_ (by first | omega | (simp; done) | (simp; omega)) _))
  clear hV
  refine (HC _ hb).mono ?_; rintro e w2 ⟨rfl, hx⟩
  replace hb := hb.step hx
  replace k3 := k3.step hx
  replace k6 := k6.step hx
  replace ks := ks.step hx
  clear hx HC
  have k3_0 := k3.cell 0; have k3_f0 := k3.frozen 0; have k3_1 := k3.cell 1; have k3_f1 := k3.frozen 1; have k3_2 := k3.cell 2; have k3_f2 := k3.frozen 2; simp only [List.set_cons_zero, List.set_cons_succ, List.getElem?_cons_zero, List.getElem?_cons_succ] at k3_0 k3_1 k3_2; have lt_k3 := k3.lt; have k6_0 := k6.cell 0; have k6_f0 := k6.frozen 0; have k6_1 := k6.cell 1; have k6_f1 := k6.frozen 1; have k6_2 := k6.cell 2; have k6_f2 := k6.frozen 2; simp only [List.set_cons_zero, List.set_cons_succ, List.getElem?_cons_zero, List.getElem?_cons_succ] at k6_0 k6_1 k6_2; have lt_k6 := k6.lt
  by_cases hC0 : C ≠ 0
  · have e0 : (C == 0) = false := by simpa using hC0
    replace hR := hide (hR.out.trans (if_pos hC0))
    clear hC0
    go_wp2_with (first | (refine wpList_store_row rfl 31 _ _ rfl _ (bsC A l.length c a s).toArray rfl rfl _ _ k6 (by kernel_rfl) (by kernel_rfl) (by kernel_rfl) ?_))
    have r6 := k6.srow (bsC A l.length c a s)
    have hbr := srow_below hb (show w.heap.size ≤ w.heap.size + 1 + 1 by omega) (bsC A l.length c a s).toArray
    exact bodyPost_ret (v := bsV A l.length c a s) (results_cell_row rfl _ _ _ _ _ (0, 0) _ rfl r6 Try.underlying31 rfl (by kernel_rfl)) rfl ⟨_, rfl, by rw [hR.out]; exact ⟨A, c, rfl, hc, (ha.below hbr).more hbr.size⟩, hbr⟩
  obtain rfl : C = 0 := Classical.not_not.1 hC0
  clear hC0
  replace hR := hide (hR.out.trans (if_neg (fun h => h rfl)))
  go_wp2_with fail
  refine (HK _ hb).mono ?_; rintro e w3 ⟨B, d, rfl, own, hx⟩
  have hw2 : w.heap.size + 1 + 1 < w2.heap.size := lt_k6
  replace hb := hb.step hx
  replace k3 := k3.step hx; (try clear k3_0 k3_f0 k3_1 k3_f1 k3_2 k3_f2); have k3_0 := k3.cell 0; have k3_f0 := k3.frozen 0; have k3_1 := k3.cell 1; have k3_f1 := k3.frozen 1; have k3_2 := k3.cell 2; have k3_f2 := k3.frozen 2; simp only [List.set_cons_zero, List.set_cons_succ, List.getElem?_cons_zero, List.getElem?_cons_succ] at k3_0 k3_1 k3_2; (try clear lt_k3); have lt_k3 := k3.lt; replace k6 := k6.step hx; (try clear k6_0 k6_f0 k6_1 k6_f1 k6_2 k6_f2); have k6_0 := k6.cell 0; have k6_f0 := k6.frozen 0; have k6_1 := k6.cell 1; have k6_f1 := k6.frozen 1; have k6_2 := k6.cell 2; have k6_f2 := k6.frozen 2; simp only [List.set_cons_zero, List.set_cons_succ, List.getElem?_cons_zero, List.getElem?_cons_succ] at k6_0 k6_1 k6_2; (try clear lt_k6); have lt_k6 := k6.lt
  replace ks := ks.step hx
  have hsz := hx.size
  clear hx HK
  have hD := pb_DeleteFunc 35 #[.pointer (some ⟨w.heap.size + 1, 0, none⟩)] (fun x => decide (x.who = u)) w2.heap.size w3 eg.out l (fun x _ W h => batch_Forget1_any x u (w.heap.size + 1) W (ks.below h (by omega))) B d hl hsz own
  generalize hF : (l.filter fun x => !decide (x.who = u)) = F at *
  replace hF := hide hF
  clear eg own
  go_wp2_with fail
  refine hD.mono ?_; rintro e w4 ⟨rfl, own, hx⟩
  replace hb : Below w.heap.size w w4 := hb.trans (hx.mono (by omega))
  have hcap := own_cap30 own
  replace k3 : Bk w4 w.heap.size 31 _ := k3.below hx (by omega)
  replace k6 : Bk w4 (w.heap.size + 1 + 1) 31 _ := k6.below hx (by omega)
  clear k3_0 k3_f0 k3_1 k3_f1 k3_2 k3_f2 k6_0 k6_f0 k6_1 k6_f1 k6_2 k6_f2 lt_k3 lt_k6 hx hD
  have k3_0 := k3.cell 0; have k3_f0 := k3.frozen 0; have k3_1 := k3.cell 1; have k3_f1 := k3.frozen 1; have k3_2 := k3.cell 2; have k3_f2 := k3.frozen 2; simp only [List.set_cons_zero, List.set_cons_succ, List.getElem?_cons_zero, List.getElem?_cons_succ] at k3_0 k3_1 k3_2; have lt_k3 := k3.lt; have k6_0 := k6.cell 0; have k6_f0 := k6.frozen 0; have k6_1 := k6.cell 1; have k6_f1 := k6.frozen 1; have k6_2 := k6.cell 2; have k6_f2 := k6.frozen 2; simp only [List.set_cons_zero, List.set_cons_succ, List.getElem?_cons_zero, List.getElem?_cons_succ] at k6_0 k6_1 k6_2; have lt_k6 := k6.lt
  go_upto_region 3 with fail
  generalize hV : World.setCell w4 _ _ = w5
  replace hb : Below w.heap.size w w5 := by subst hV; exact hb.setCell (Nat.le_refl _) _
  have kA : Bk w5 w.heap.size 31 (bsC B F.length d a s) := by subst hV; exact k3.set_ 0 _
  have kB : Bk w5 (w.heap.size + 1 + 1) 31 (bsC none 0 0 0 0) := by subst hV; exact k6.far (by dsimp only; omega) _
  have own7 := own_far own (p := ⟨w.heap.size, 0, none⟩) (by dsimp only; omega) (.slice B F.length d)
  replace own7 : w5.ownsRow w2.heap.size 60 2 (.slice B F.length d) F.length (pbs F) := by subst hV; exact own7
  have hble := own_blk own7
  have hrd := own_rd own7
  clear hV own own7
  (try clear k3_0 k3_f0 k3_1 k3_f1 k3_2 k3_f2 lt_k3) ; (try clear k6_0 k6_f0 k6_1 k6_f1 k6_2 k6_f2 lt_k6)
  clear k3 k6
  have kA_0 := kA.cell 0; have kA_f0 := kA.frozen 0; have kA_1 := kA.cell 1; have kA_f1 := kA.frozen 1; have kA_2 := kA.cell 2; have kA_f2 := kA.frozen 2; simp only [List.set_cons_zero, List.set_cons_succ, List.getElem?_cons_zero, List.getElem?_cons_succ] at kA_0 kA_1 kA_2; have lt_kA := kA.lt; have kB_0 := kB.cell 0; have kB_f0 := kB.frozen 0; have kB_1 := kB.cell 1; have kB_f1 := kB.frozen 1; have kB_2 := kB.cell 2; have kB_f2 := kB.frozen 2; simp only [List.set_cons_zero, List.set_cons_succ, List.getElem?_cons_zero, List.getElem?_cons_succ] at kB_0 kB_1 kB_2; have lt_kB := kB.lt
  go_wp2_with (first | (refine wpList_store_row rfl 31 _ _ rfl _ (bsC B F.length d a s).toArray rfl rfl _ _ kB (by kernel_rfl) (by kernel_rfl) (by kernel_rfl) ?_))
  have r6 := kB.srow (bsC B F.length d a s)
  have hbr := srow_below hb (show w.heap.size ≤ w.heap.size + 1 + 1 by omega) (bsC B F.length d a s).toArray
  have hrd2 := hrd.rowFar (g := w.heap.size + 1 + 1) (fun ad e => by have := (hble ad e).1; omega) (bsC B F.length d a s).toArray
  exact bodyPost_ret (v := bsV B F.length d a s) (results_cell_row rfl _ _ _ _ _ (0, 0) _ rfl r6 Try.underlying31 rfl (by kernel_rfl)) rfl ⟨_, rfl, by rw [hR.out]; exact ⟨B, d, rfl, hcap.1, hrd2⟩, hbr⟩
end Go.Proofs.Ytfgfkiifekeeaaa
