/- Package callboyref03: Handles, Used, Same, New. -/
import Derived.Test.YtnmpighdkdffbaaRef03f
namespace Go.Proofs.Ytnmpighdkdffbaa
open Go.RowKit Go.Sort
set_option linter.unusedSimpArgs false
set_option linter.unusedVariables false

set_option maxRecDepth 100000 in
set_option maxHeartbeats 8000000 in
theorem rHandles_any (A B : Option Addr) (c d : Nat) (l : List Cl) (f : List Int) (w : World) (hl : l.length ≤ 1000) (hf : f.length ≤ 1000) (ha : Rd w w.heap.size A (cls l)) (hb : Rd w w.heap.size B (ints f)) :
    Calls Try.prog 28 #[stV A l.length c B f.length d] w fun e w' => ∃ B' d', e = .returned (.slice B' (pHandles l f).length d') ∧ w'.ownsRow w.heap.size 3 1 (.slice B' (pHandles l f).length d') (pHandles l f).length (ints (pHandles l f)) ∧ Below w.heap.size w w' := by
  obtain ⟨iT, hi, hz0, hz1, hz2⟩ := info_parts pint_info
  have hC := fun (W : World) (h' : Below w.heap.size w W) => rCheck_any A B c d l f W hl hf ((ha.below h').more h'.size) ((hb.below h').more h'.size)
  by_cases he : pCheck l f = 0
  · obtain ⟨⟨hl0, hl64⟩, hgen, -, -⟩ := check_ok he
    have hr : pHandles l f = pHand l 0 := by unfold pHandles; rw [if_neg (by simpa using he)]
    rw [he] at hC
    have HG := hide hgen
    have HR := hide hr
    clear he hgen hr
    go_enter Try.func28, Try.ntmps28
    go_wp2_with fail
    generalize hV : World.alloc w _ = w1
    have hb1 : Below w.heap.size w w1 := by subst hV; (repeat (first | with_reducible exact Below.refl _ _ | with_reducible assumption | with_reducible refine Below.drew ?_ | with_reducible refine Below.drewN ?_ _ | with_reducible refine Below.alloc1 ?_ _ | with_reducible refine Below.setCell1 ?_ (by first | omega | (simp; done) | (simp; omega)) _ | with_reducible refine Below.step ?_ (by with_reducible assumption)))
    have k0 : Bk w1 w.heap.size 25 (stC A l.length c B f.length d) := by subst hV; (repeat (first | with_reducible exact Bk.new' _ _ _ _ (by simp; done) | with_reducible assumption | with_reducible refine Bk.alloc ?_ _ | with_reducible refine Bk.drew ?_ | with_reducible refine Bk.drewN ?_ _ | with_reducible refine Bk.step ?_ (by with_reducible assumption) | with_reducible refine Bk.far ?_ (by first | omega | (simp; done) | (simp; omega)) _))
    clear hV
    go_loopw [3, 4] (fun o i wr => ∃ (k : Nat) (A' : Option Addr) (c' : Nat), k ≤ l.length ∧ i = .int .i64 k ∧ o = .slice A' (pHand (l.take k) 0).length c' ∧ wr.ownsRow (w.heap.size + 1) 3 1 (.slice A' (pHand (l.take k) 0).length c') (pHand (l.take k) 0).length (ints (pHand (l.take k) 0)) ∧ Bk wr w.heap.size 25 (stC A l.length c B f.length d) ∧ Below w.heap.size w wr) (fun _ i _ => l.length - (intOf i).toNat)
    case atStart => exact ⟨0, none, 0, Nat.zero_le _, rfl, rfl, ⟨rfl, .inl ⟨rfl, rfl⟩⟩, k0, hb1⟩
    case round =>
      obtain ⟨k, A', c', hk, rfl, rfl, own, j0, hbr⟩ := hrel
      clear k0 hb1
      have j0_0 := j0.cell 0; have j0_f0 := j0.frozen 0; have j0_1 := j0.cell 1; have j0_f1 := j0.frozen 1; simp only [List.set_cons_zero, List.set_cons_succ, List.getElem?_cons_zero, List.getElem?_cons_succ] at j0_0 j0_1; have lt_j0 := j0.lt
      by_cases hlt : k < l.length
      · obtain ⟨ad, rfl, hadb, _⟩ := ha.cl hlt
        have hcl := fun (W : World) (h : Below w.heap.size w W) => (ha.below h).cl hlt
        have HS := hide (pHand_snoc l k hlt)
        have hgk := HG.out _ (List.getElem_mem hlt)
        have hlen : (pHand (l.take k) 0).length ≤ k := by have := pHand_len (l.take k) 0; rw [List.length_take] at this; omega
        have hlt0 := j0.lt
        generalize pHand (l.take k) 0 = hs at *
        go_wp2_with fail
        refine (hC _ hbr).mono ?_; rintro e x2 ⟨rfl, hx2⟩
        replace j0 := j0.step hx2; (try clear j0_0 j0_f0 j0_1 j0_f1); have j0_0 := j0.cell 0; have j0_f0 := j0.frozen 0; have j0_1 := j0.cell 1; have j0_f1 := j0.frozen 1; simp only [List.set_cons_zero, List.set_cons_succ, List.getElem?_cons_zero, List.getElem?_cons_succ] at j0_0 j0_1; (try clear lt_j0); have lt_j0 := j0.lt
        replace own := own_below own hx2 (Nat.le_refl _)
        replace hbr : Below w.heap.size w x2 := hbr.step hx2
        have hsz2 := hx2.size
        clear hx2
        obtain ⟨ad', e, _, c1, c2, c3⟩ := hcl _ hbr
        injection e with e
        subst e
        clear hcl
        generalize l[k] = x at *
        obtain ⟨g, lv, v⟩ := x
        simp only at c1 c2 c3 hgk
        cases lv with
        | false =>
          have hsn := HS.out
          simp only [Bool.false_eq_true, if_false, List.append_nil] at hsn
          replace HS := hide hsn
          clear hsn
          go_wp2
          go_roundw
          case rel =>
            refine ⟨k + 1, A', c', by omega, by go_num, ?_⟩
            rw [HS.out]
            exact ⟨rfl, own, j0, hbr⟩
          case measure => simp [intOf]; omega
        | true =>
          have hsn := HS.out
          simp only [if_true] at hsn
          rw [show g * 64 + (k : Int) = 64 * g + k by omega] at hsn
          replace HS := hide hsn
          clear hsn
          go_wp2_with (at_builtin; refine wpList_app2 rfl (.tmp 23) (.tmp 33) 23 rfl (w.heap.size + 1) 3 iT _ 1 8 Try.underlying23 hi hz0 hz1 hz2 rfl (by omega) A' hs.length c' (ints hs) rfl (own.alloc _) ⟨x2.heap.size, 0, none⟩ 1 1 [.int .i64 (64 * g + k)] rfl rfl (news_at (cs := [_])) (by simp [Value.oneCell']) (by unfold maxLen; omega) (by omega) (by simp; omega) (by omega) ?_; intro g2 cap w7 own7 hb7 hgr7)
          have j7 := (j0.alloc (.cells #[.int .i64 (64 * g + k)] 3)).below hb7 (by omega)
          have hb8 : Below w.heap.size w w7 := (hbr.alloc1 _).trans (hb7.mono (by omega))
          go_roundw
          case rel =>
            refine ⟨k + 1, some ⟨g2, 0, none⟩, cap, by omega, by go_num, ?_⟩
            rw [HS.out]
            have hlen7 : (hs ++ [64 * g + (k : Int)]).length = hs.length + 1 := by simp
            have hints : ints (hs ++ [64 * g + (k : Int)]) = ints hs ++ [.int .i64 (64 * g + k)] := by simp [ints]
            rw [hlen7, hints]
            exact ⟨rfl, own7, j7, hb8⟩
          case measure => simp [intOf]; omega
      · have hkl : k = l.length := by omega
        subst hkl
        rw [List.take_length] at own ⊢
        have h := HR.out
        go_wp2
        go_ret
        rw [h]
        exact ⟨A', c', rfl, own_mono own (by omega), by (repeat (first | with_reducible exact Below.refl _ _ | with_reducible assumption | with_reducible refine Below.drew ?_ | with_reducible refine Below.drewN ?_ _ | with_reducible refine Below.alloc1 ?_ _ | with_reducible refine Below.setCell1 ?_ (by first | omega | (simp; done) | (simp; omega)) _ | with_reducible refine Below.step ?_ (by with_reducible assumption)))⟩
  · have hr : pHandles l f = [] := by unfold pHandles; rw [if_pos he]
    have hne : (pCheck l f == 0) = false := by simpa using he
    generalize pCheck l f = ec at *
    clear he
    go_enter Try.func28, Try.ntmps28
    go_wp2_with fail
    generalize hV : World.alloc w _ = w1
    have hb1 : Below w.heap.size w w1 := by subst hV; (repeat (first | with_reducible exact Below.refl _ _ | with_reducible assumption | with_reducible refine Below.drew ?_ | with_reducible refine Below.drewN ?_ _ | with_reducible refine Below.alloc1 ?_ _ | with_reducible refine Below.setCell1 ?_ (by first | omega | (simp; done) | (simp; omega)) _ | with_reducible refine Below.step ?_ (by with_reducible assumption)))
    have k0 : Bk w1 w.heap.size 25 (stC A l.length c B f.length d) := by subst hV; (repeat (first | with_reducible exact Bk.new' _ _ _ _ (by simp; done) | with_reducible assumption | with_reducible refine Bk.alloc ?_ _ | with_reducible refine Bk.drew ?_ | with_reducible refine Bk.drewN ?_ _ | with_reducible refine Bk.step ?_ (by with_reducible assumption) | with_reducible refine Bk.far ?_ (by first | omega | (simp; done) | (simp; omega)) _))
    clear hV
    go_loopw [3, 4] (fun o i wr => i = .int .i64 0 ∧ o = .slice none 0 0 ∧ Bk wr w.heap.size 25 (stC A l.length c B f.length d) ∧ Below w.heap.size w wr) (fun _ i _ => 0)
    case atStart => exact ⟨rfl, rfl, k0, hb1⟩
    case round =>
      obtain ⟨rfl, rfl, j0, hbr⟩ := hrel
      have j0_0 := j0.cell 0; have j0_f0 := j0.frozen 0; have j0_1 := j0.cell 1; have j0_f1 := j0.frozen 1; simp only [List.set_cons_zero, List.set_cons_succ, List.getElem?_cons_zero, List.getElem?_cons_succ] at j0_0 j0_1; have lt_j0 := j0.lt
      by_cases hl0 : l.length = 0
      · have h0 : (l.length : Int) = 0 := by omega
        go_wp2
        go_ret
        rw [hr]
        exact ⟨none, 0, rfl, ⟨rfl, .inl ⟨rfl, rfl⟩⟩, by (repeat (first | with_reducible exact Below.refl _ _ | with_reducible assumption | with_reducible refine Below.drew ?_ | with_reducible refine Below.drewN ?_ _ | with_reducible refine Below.alloc1 ?_ _ | with_reducible refine Below.setCell1 ?_ (by first | omega | (simp; done) | (simp; omega)) _ | with_reducible refine Below.step ?_ (by with_reducible assumption)))⟩
      · have h0 : (0 : Int) < l.length := by omega
        go_wp2_with fail
        refine (hC _ hbr).mono ?_; rintro e x2 ⟨rfl, hx2⟩
        go_wp2
        go_ret
        rw [hr]
        exact ⟨none, 0, rfl, ⟨rfl, .inl ⟨rfl, rfl⟩⟩, by (repeat (first | with_reducible exact Below.refl _ _ | with_reducible assumption | with_reducible refine Below.drew ?_ | with_reducible refine Below.drewN ?_ _ | with_reducible refine Below.alloc1 ?_ _ | with_reducible refine Below.setCell1 ?_ (by first | omega | (simp; done) | (simp; omega)) _ | with_reducible refine Below.step ?_ (by with_reducible assumption)))⟩
theorem rUsed_any (A B : Option Addr) (c d : Nat) (l : List Cl) (f : List Int) (w : World) (hl : l.length ≤ 1000) (hf : f.length ≤ 1000) (ha : Rd w w.heap.size A (cls l)) (hb : Rd w w.heap.size B (ints f)) :
    Calls Try.prog 25 #[stV A l.length c B f.length d] w fun e w' => e = .returned (.int .i64 (pHandles l f).length) ∧ Below w.heap.size w w' := by
  have hC := fun (W : World) (h' : Below w.heap.size w W) => rHandles_any A B c d l f W hl hf ((ha.below h').more h'.size) ((hb.below h').more h'.size)
  go_enter Try.func25, Try.ntmps25
  go_wp2_with fail
  generalize hV : World.alloc w _ = w1
  have hb1 : Below w.heap.size w w1 := by subst hV; (repeat (first | with_reducible exact Below.refl _ _ | with_reducible assumption | with_reducible refine Below.drew ?_ | with_reducible refine Below.drewN ?_ _ | with_reducible refine Below.alloc1 ?_ _ | with_reducible refine Below.setCell1 ?_ (by first | omega | (simp; done) | (simp; omega)) _ | with_reducible refine Below.step ?_ (by with_reducible assumption)))
  clear hV
  refine (hC _ hb1).mono ?_; rintro e x0 ⟨B', d', rfl, _, hx0⟩
  go_wp2
  go_ret
  exact ⟨rfl, by (repeat (first | with_reducible exact Below.refl _ _ | with_reducible assumption | with_reducible refine Below.drew ?_ | with_reducible refine Below.drewN ?_ _ | with_reducible refine Below.alloc1 ?_ _ | with_reducible refine Below.setCell1 ?_ (by first | omega | (simp; done) | (simp; omega)) _ | with_reducible refine Below.step ?_ (by with_reducible assumption)))⟩
end Go.Proofs.Ytnmpighdkdffbaa
