/- The reference of package batch: Take, Forget. -/
import Derived.Test.YtfgfkiifekeeaaaRb3
namespace Go.Proofs.Ytfgfkiifekeeaaa
open Go.RowKit Go.Shelf Go.Sort
set_option linter.unusedSimpArgs false
set_option linter.unusedVariables false

set_option maxRecDepth 1000000 in
set_option maxHeartbeats 8000000 in
theorem ref30_Take_any (A : Option Addr) (c : Nat) (l : List Pb) (a s n : Int) (w : World) (hl : l.length ≤ 1000) (hc : l.length ≤ c) (hS : ∀ x ∈ l, Sm x) (ha : Rd w w.heap.size A (pbs l)) :
    Calls Try.prog 13 #[bsV A l.length c a s, .int .i64 n] w (TakePost w (bTake ⟨l, a, s⟩ n)) := by
  have HC := fun (W : World) (h : Below w.heap.size w W) => ref30_Check_any A c l a s W hl hS ((ha.below h).more h.size)
  obtain ⟨R, hR⟩ : ∃ R, R = bTake ⟨l, a, s⟩ n := ⟨_, rfl⟩
  rw [← hR]
  unfold bTake at hR
  dsimp only at hR
  have hok : bCheck ⟨l, a, s⟩ = 0 → Hid (l.length ≤ 64 ∧ bIn a = true) := fun h => ⟨(bCheck_ok h).1, (bCheck_ok h).2.2.2.1⟩
  obtain ⟨hk1, hk2⟩ := bCut_le n l.length
  generalize bCheck ⟨l, a, s⟩ = C at *
  generalize bCut n l.length = k at *
  replace hR := hide hR
  replace hok := hide hok
  have hel : Try.prog.elem 22 = 26 := by kernel_rfl
  have hsz : ∀ W, (sizeOf 26).run Try.prog W = .ok 2 W := fun W => by kernel_rfl
  obtain ⟨A2, hA2, sf1, sf2⟩ := from_runA Try.underlying22 hel hsz A k l.length c (k : Int) rfl hk1 hc
  obtain ⟨st1, st2⟩ := to_runA Try.underlying22 hel hsz A k l.length c (k : Int) rfl (by omega)
  have HA2 := hide hA2
  have HK2 := hide hk2
  clear hA2 hk2 hsz hel
  go_enter Try.func13, Try.ntmps13
  go_wp2_with fail
  generalize hV : World.alloc (World.alloc w _) _ = w1
  have hb : Below w.heap.size w w1 := by subst hV; (repeat (first | with_reducible exact Below.refl _ _ | with_reducible assumption | with_reducible refine Below.drew ?_ | with_reducible refine Below.drewN ?_ _ | with_reducible refine Below.alloc1 ?_ _ | with_reducible refine Below.setCell1 ?_ (by first | omega | (simp; done) | (simp; omega)) _ | with_reducible refine Below.step ?_ (by with_reducible assumption)))
  have k3 : Bk w1 w.heap.size 24 (bsC A l.length c a s) := by subst hV; (repeat (first | with_reducible exact Bk.new' _ _ _ _ (by simp; done) | with_reducible assumption | with_reducible refine Bk.alloc ?_ _ | with_reducible refine Bk.drew ?_ | with_reducible refine Bk.drewN ?_ _ | with_reducible refine Bk.step ?_ (by with_reducible assumption) | with_reducible refine Bk.far ?_ (by first | omega | (simp; done) | (simp; omega)) _))
  have k6 : Bk w1 (w.heap.size + 1) 24 (bsC none 0 0 0 0) := by subst hV; (repeat (first | with_reducible exact Bk.new' _ _ _ _ (by simp; done) | with_reducible assumption | with_reducible refine Bk.alloc ?_ _ | with_reducible refine Bk.drew ?_ | with_reducible refine Bk.drewN ?_ _ | with_reducible refine Bk.step ?_ (by with_reducible assumption) | with_reducible refine Bk.far ?_ (by first | omega | (simp; done) | (simp; omega)) _))
  clear hV
  refine (HC _ hb).mono ?_; rintro e w2 ⟨rfl, hx⟩
  replace hb := hb.step hx
  replace k3 := k3.step hx
  replace k6 := k6.step hx
  clear hx HC
  have k3_0 := k3.cell 0; have k3_f0 := k3.frozen 0; have k3_1 := k3.cell 1; have k3_f1 := k3.frozen 1; have k3_2 := k3.cell 2; have k3_f2 := k3.frozen 2; simp only [List.set_cons_zero, List.set_cons_succ, List.getElem?_cons_zero, List.getElem?_cons_succ] at k3_0 k3_1 k3_2; have lt_k3 := k3.lt; have k6_0 := k6.cell 0; have k6_f0 := k6.frozen 0; have k6_1 := k6.cell 1; have k6_f1 := k6.frozen 1; have k6_2 := k6.cell 2; have k6_f2 := k6.frozen 2; simp only [List.set_cons_zero, List.set_cons_succ, List.getElem?_cons_zero, List.getElem?_cons_succ] at k6_0 k6_1 k6_2; have lt_k6 := k6.lt
  by_cases hC0 : C ≠ 0
  · have e0 : (C != 0) = true := by simpa using hC0
    replace hR := hide (hR.out.trans (if_pos hC0))
    clear hC0 hok st1 st2 sf1 sf2
    go_wp2_with (first | (refine wpList_store_row rfl 24 _ _ rfl _ (bsC A l.length c a s).toArray rfl rfl _ _ k6 (by kernel_rfl) (by kernel_rfl) (by kernel_rfl) ?_))
    have r6 := k6.srow (bsC A l.length c a s)
    have hbr := srow_below hb (Nat.le_succ w.heap.size) (bsC A l.length c a s).toArray
    exact bodyPost_ret (v := .tuple #[bsV A l.length c a s, .slice none 0 0]) (results_row_val rfl _ _ _ _ _ _ _ rfl rfl r6 Try.underlying24 rfl (by kernel_rfl)) rfl ⟨_, none, 0, by rw [hR.out]; rfl, by rw [hR.out]; exact ⟨A, c, rfl, hc, (ha.below hbr).more hbr.size⟩, by rw [hR.out]; exact Nat.zero_le _, by rw [hR.out]; exact Rd.nil, hbr⟩
  obtain rfl : C = 0 := Classical.not_not.1 hC0
  clear hC0
  have hok2 := hok.out rfl
  replace hR := hide (hR.out.trans (if_neg (fun h => h rfl)))
  clear hok
  have hs := bIn_iff hok2.out.2
  have h64 := hok2.out.1
  obtain ⟨h0, h1⟩ := hs
  have hk2 := HK2.out
  clear hok2 HK2
  go_upto_region 6 with fail
  generalize hV : World.setCell w2 _ _ = w3
  replace hb : Below w.heap.size w w3 := by subst hV; exact hb.setCell (Nat.le_refl _) _
  have kA : Bk w3 w.heap.size 24 (bsC A2 (l.length - k) (c - k) a s) := by subst hV; exact k3.set_ 0 _
  have kB : Bk w3 (w.heap.size + 1) 24 (bsC none 0 0 0 0) := by subst hV; exact k6.far (by dsimp only; omega) _
  clear hV
  (try clear k3_0 k3_f0 k3_1 k3_f1 k3_2 k3_f2 lt_k3) ; (try clear k6_0 k6_f0 k6_1 k6_f1 k6_2 k6_f2 lt_k6)
  clear k3 k6 st1 st2 sf1 sf2 hk2
  have kA_0 := kA.cell 0; have kA_f0 := kA.frozen 0; have kA_1 := kA.cell 1; have kA_f1 := kA.frozen 1; have kA_2 := kA.cell 2; have kA_f2 := kA.frozen 2; simp only [List.set_cons_zero, List.set_cons_succ, List.getElem?_cons_zero, List.getElem?_cons_succ] at kA_0 kA_1 kA_2; have lt_kA := kA.lt; have kB_0 := kB.cell 0; have kB_f0 := kB.frozen 0; have kB_1 := kB.cell 1; have kB_f1 := kB.frozen 1; have kB_2 := kB.cell 2; have kB_f2 := kB.frozen 2; simp only [List.set_cons_zero, List.set_cons_succ, List.getElem?_cons_zero, List.getElem?_cons_succ] at kB_0 kB_1 kB_2; have lt_kB := kB.lt
  go_upto_region 7 with fail
  rw [Int.min_comm 1099511627776 (a + (k : Int))]
  generalize hV : World.setCell w3 _ _ = w4
  replace hb : Below w.heap.size w w4 := by subst hV; exact hb.setCell (Nat.le_refl _) _
  have kA' : Bk w4 w.heap.size 24 (bsC A2 (l.length - k) (c - k) (min (a + k) 1099511627776) s) := by subst hV; exact kA.set_ 1 _
  have kB' : Bk w4 (w.heap.size + 1) 24 (bsC none 0 0 0 0) := by subst hV; exact kB.far (by dsimp only; omega) _
  clear hV
  (try clear kA_0 kA_f0 kA_1 kA_f1 kA_2 kA_f2 lt_kA) ; (try clear kB_0 kB_f0 kB_1 kB_f1 kB_2 kB_f2 lt_kB)
  clear kA kB
  obtain ⟨kA, _⟩ := And.intro kA' trivial
  obtain ⟨kB, _⟩ := And.intro kB' trivial
  clear kA' kB'
  have kA_0 := kA.cell 0; have kA_f0 := kA.frozen 0; have kA_1 := kA.cell 1; have kA_f1 := kA.frozen 1; have kA_2 := kA.cell 2; have kA_f2 := kA.frozen 2; simp only [List.set_cons_zero, List.set_cons_succ, List.getElem?_cons_zero, List.getElem?_cons_succ] at kA_0 kA_1 kA_2; have lt_kA := kA.lt; have kB_0 := kB.cell 0; have kB_f0 := kB.frozen 0; have kB_1 := kB.cell 1; have kB_f1 := kB.frozen 1; have kB_2 := kB.cell 2; have kB_f2 := kB.frozen 2; simp only [List.set_cons_zero, List.set_cons_succ, List.getElem?_cons_zero, List.getElem?_cons_succ] at kB_0 kB_1 kB_2; have lt_kB := kB.lt
  go_wp2_with (first | (refine wpList_store_row rfl 24 _ _ rfl _ (bsC A2 (l.length - k) (c - k) (min (a + k) 1099511627776) s).toArray rfl rfl _ _ kB (by kernel_rfl) (by kernel_rfl) (by kernel_rfl) ?_))
  have r6 := kB.srow (bsC A2 (l.length - k) (c - k) (min (a + k) 1099511627776) s)
  have hbr := srow_below hb (Nat.le_succ w.heap.size) (bsC A2 (l.length - k) (c - k) (min (a + k) 1099511627776) s).toArray
  have hra := (ha.below hbr).more hbr.size
  refine bodyPost_ret (v := .tuple #[bsV A2 (l.length - k) (c - k) (min (a + k) 1099511627776) s, .slice A k c]) (results_row_val rfl _ _ _ _ _ _ _ rfl rfl r6 Try.underlying24 rfl (by kernel_rfl)) rfl ?_
  refine ⟨bsV A2 (l.length - k) (c - k) (min (a + k) 1099511627776) s, A, c, ?_, ?_, ?_, ?_, hbr⟩
  · rw [hR.out]; simp only [List.length_take, Nat.min_eq_left hk1]
  · rw [hR.out]
    exact ⟨A2, c - k, by simp only [List.length_drop], by simp only [List.length_drop]; omega, by rw [← pbs_drop]; exact HA2.out _ _ _ hra (by rw [pbs_length]; omega)⟩
  · rw [hR.out]; simp only [List.length_take]; omega
  · rw [hR.out]; dsimp only; rw [← pbs_take]; exact hra.take _

theorem filt_snoc (l : List Pb) (u : ByteArray) (k : Nat) (h : k < l.length) : (l.take (k + 1)).filter (fun p => !decide (p.who = u)) = (l.take k).filter (fun p => !decide (p.who = u)) ++ if l[k].who = u then [] else [l[k]] := by
  rw [take_snocL l k h, List.filter_append]
  by_cases e : l[k].who = u <;> simp [e]
set_option maxRecDepth 1000000 in
set_option maxHeartbeats 8000000 in
theorem ref30_Forget_any (A : Option Addr) (c : Nat) (l : List Pb) (a s : Int) (u : ByteArray) (w : World) (hl : l.length ≤ 1000) (hc : l.length ≤ c) (hS : ∀ x ∈ l, Sm x) (ha : Rd w w.heap.size A (pbs l)) :
    Calls Try.prog 19 #[bsV A l.length c a s, .string u] w (ForgetPost w (bForget ⟨l, a, s⟩ u)) := by
  have HC := fun (W : World) (h : Below w.heap.size w W) => ref30_Check_any A c l a s W hl hS ((ha.below h).more h.size)
  obtain ⟨R, hR⟩ : ∃ R, R = bForget ⟨l, a, s⟩ u := ⟨_, rfl⟩
  rw [← hR]
  unfold bForget at hR
  dsimp only at hR
  generalize bCheck ⟨l, a, s⟩ = C at *
  replace hR := hide hR
  go_enter Try.func19, Try.ntmps19
  go_wp2_with fail
  generalize hV : World.alloc (World.alloc w _) _ = w1
  have hb : Below w.heap.size w w1 := by subst hV; (repeat (first | with_reducible exact Below.refl _ _ | with_reducible assumption | with_reducible refine Below.drew ?_ | with_reducible refine Below.drewN ?_ _ | with_reducible refine Below.alloc1 ?_ _ | with_reducible refine Below.setCell1 ?_ (by first | omega | (simp; done) | (simp; omega)) _ | with_reducible refine Below.step ?_ (by with_reducible assumption)))
  have k3 : Bk w1 w.heap.size 24 (bsC A l.length c a s) := by subst hV; (repeat (first | with_reducible exact Bk.new' _ _ _ _ (by simp; done) | with_reducible assumption | with_reducible refine Bk.alloc ?_ _ | with_reducible refine Bk.drew ?_ | with_reducible refine Bk.drewN ?_ _ | with_reducible refine Bk.step ?_ (by with_reducible assumption) | with_reducible refine Bk.far ?_ (by first | omega | (simp; done) | (simp; omega)) _))
  have k6 : Bk w1 (w.heap.size + 1) 24 (bsC none 0 0 0 0) := by subst hV; (repeat (first | with_reducible exact Bk.new' _ _ _ _ (by simp; done) | with_reducible assumption | with_reducible refine Bk.alloc ?_ _ | with_reducible refine Bk.drew ?_ | with_reducible refine Bk.drewN ?_ _ | with_reducible refine Bk.step ?_ (by with_reducible assumption) | with_reducible refine Bk.far ?_ (by first | omega | (simp; done) | (simp; omega)) _))
  clear hV
  refine (HC _ hb).mono ?_; rintro e w2 ⟨rfl, hx⟩
  replace hb := hb.step hx
  replace k3 := k3.step hx
  replace k6 := k6.step hx
  clear hx HC
  have k3_0 := k3.cell 0; have k3_f0 := k3.frozen 0; have k3_1 := k3.cell 1; have k3_f1 := k3.frozen 1; have k3_2 := k3.cell 2; have k3_f2 := k3.frozen 2; simp only [List.set_cons_zero, List.set_cons_succ, List.getElem?_cons_zero, List.getElem?_cons_succ] at k3_0 k3_1 k3_2; have lt_k3 := k3.lt; have k6_0 := k6.cell 0; have k6_f0 := k6.frozen 0; have k6_1 := k6.cell 1; have k6_f1 := k6.frozen 1; have k6_2 := k6.cell 2; have k6_f2 := k6.frozen 2; simp only [List.set_cons_zero, List.set_cons_succ, List.getElem?_cons_zero, List.getElem?_cons_succ] at k6_0 k6_1 k6_2; have lt_k6 := k6.lt
  by_cases hC0 : C ≠ 0
  · have e0 : (C != 0) = true := by simpa using hC0
    replace hR := hide (hR.out.trans (if_pos hC0))
    clear hC0
    go_wp2_with (first | (refine wpList_store_row rfl 24 _ _ rfl _ (bsC A l.length c a s).toArray rfl rfl _ _ k6 (by kernel_rfl) (by kernel_rfl) (by kernel_rfl) ?_))
    have r6 := k6.srow (bsC A l.length c a s)
    have hbr := srow_below hb (Nat.le_succ w.heap.size) (bsC A l.length c a s).toArray
    exact bodyPost_ret (v := bsV A l.length c a s) (results_cell_row rfl _ _ _ _ _ (0, 0) _ rfl r6 Try.underlying24 rfl (by kernel_rfl)) rfl ⟨_, rfl, by rw [hR.out]; exact ⟨A, c, rfl, hc, (ha.below hbr).more hbr.size⟩, hbr⟩
  obtain rfl : C = 0 := Classical.not_not.1 hC0
  clear hC0
  replace hR := hide (hR.out.trans (if_neg (fun h => h rfl)))
  obtain ⟨iT, hi, hz0, hz1, hz2⟩ := info_parts rb_info
  have hw2 : w.heap.size + 1 < w2.heap.size := lt_k6
  generalize hF : (fun k : Nat => (l.take k).filter (fun p => !decide (p.who = u))) = F at *
  have hFs : Hid (∀ k (h : k < l.length), F (k + 1) = F k ++ if l[k].who = u then [] else [l[k]]) := fun k h => by subst hF; exact filt_snoc l u k h
  have hF0 : Hid (F 0 = []) := by subst hF; simp [Hid]
  have hFl : Hid (F l.length = l.filter fun p => !decide (p.who = u)) := by subst hF; simp only [Hid, List.take_length]
  have hFn : ∀ k, k ≤ l.length → (F k).length ≤ k := fun k hk => by subst hF; exact Nat.le_trans (List.length_filter_le _ _) (by rw [List.length_take]; omega)
  replace hFn := hide hFn
  clear hF
  go_wp2_with fail
  go_loopw [5, 6] (fun v i wr => ∃ (k : Nat) (W : Option Addr) (cW : Nat), k ≤ l.length ∧ i = .int .i64 k ∧ v = .slice W (F k).length cW ∧ wr.ownsRow w2.heap.size 26 2 (.slice W (F k).length cW) (F k).length (pbs (F k)) ∧ Bk wr w.heap.size 24 (bsC A l.length c a s) ∧ Bk wr (w.heap.size + 1) 24 (bsC none 0 0 0 0) ∧ w2.heap.size ≤ wr.heap.size ∧ Below w.heap.size w wr) (fun _ i _ => l.length - (intOf i).toNat)
  case atStart => exact ⟨0, none, 0, Nat.zero_le _, rfl, by rw [hF0.out]; rfl, by rw [hF0.out]; exact ⟨by simp, .inl ⟨rfl, rfl⟩⟩, k3, k6, Nat.le_refl _, hb⟩
  case round =>
    (try clear k3_0 k3_f0 k3_1 k3_f1 k3_2 k3_f2 lt_k3) ; (try clear k6_0 k6_f0 k6_1 k6_f1 k6_2 k6_f2 lt_k6)
    clear k3 k6 hb
    obtain ⟨k, W, cW, hk, rfl, rfl, own, k3, k6, hbw, hb⟩ := hrel
    have k3_0 := k3.cell 0; have k3_f0 := k3.frozen 0; have k3_1 := k3.cell 1; have k3_f1 := k3.frozen 1; have k3_2 := k3.cell 2; have k3_f2 := k3.frozen 2; simp only [List.set_cons_zero, List.set_cons_succ, List.getElem?_cons_zero, List.getElem?_cons_succ] at k3_0 k3_1 k3_2; have lt_k3 := k3.lt; have k6_0 := k6.cell 0; have k6_f0 := k6.frozen 0; have k6_1 := k6.cell 1; have k6_f1 := k6.frozen 1; have k6_2 := k6.cell 2; have k6_f2 := k6.frozen 2; simp only [List.set_cons_zero, List.set_cons_succ, List.getElem?_cons_zero, List.getElem?_cons_succ] at k6_0 k6_1 k6_2; have lt_k6 := k6.lt
    have hn1 := hFn.out k hk
    by_cases hlt : k < l.length
    · obtain ⟨ad, rfl, hadb, c1, c2⟩ := (ha.below hb).pb hlt
      have HS := hide (hFs.out k hlt)
      generalize hx : l[k] = x at *
      replace hx := hide hx
      obtain ⟨y, z⟩ := x
      dsimp only at c1 c2
      have e0 := txt_bne y u
      have e1 := txt_beq y u
      generalize hU : F k = U at *
      generalize hVe : F (k + 1) = V at *
      replace hU := hide hU
      replace hVe := hide hVe
      by_cases hyu : y = u
      · rw [decide_eq_true hyu] at e0 e1
        have HS2 : Hid (V = U) := by unfold Hid; rw [HS.out]; dsimp only; rw [if_pos hyu, List.append_nil]
        replace hyu := hide hyu
        clear HS
        go_wp2
        go_roundw
        case rel => exact ⟨k + 1, W, cW, by omega, by go_num, by rw [hVe.out, HS2.out], by rw [hVe.out, HS2.out]; exact own, k3, k6, by omega, hb⟩
        case measure => simp [intOf]; omega
      · rw [decide_eq_false hyu] at e0 e1
        have HS2 : Hid (V = U ++ [⟨y, z⟩]) := by unfold Hid; rw [HS.out]; dsimp only; rw [if_neg hyu]
        have hyd : ¬ y.data = u.data := fun h => hyu (ByteArray.ext h)
        replace hyu := hide hyu
        clear HS
        go_wp2_with (at_builtin; refine wpList_app2 rfl (.tmp 26) (.tmp 32) 22 rfl w2.heap.size 26 iT _ 2 32 Try.underlying22 hi hz0 hz1 hz2 rfl (by omega) W U.length cW (pbs U) rfl (own.alloc _) ⟨wr.heap.size, 0, none⟩ 1 1 (pbC ⟨y, z⟩) rfl rfl (news_at (cs := [_, _])) (by simp [Value.oneCell']) (by unfold maxLen; omega) (by omega) (by simp; omega) (by omega) ?_; intro g2 cap w7 own7 hb7 hgr7)
        have hs7 := hb7.size
        simp at hs7
        have k3' : Bk w7 w.heap.size 24 (bsC (some ad) l.length c a s) := (k3.alloc _).below hb7 (by omega)
        have k6' : Bk w7 (w.heap.size + 1) 24 (bsC none 0 0 0 0) := (k6.alloc _).below hb7 (by omega)
        replace hb : Below w.heap.size w w7 := (hb.alloc1 _).trans (hb7.mono (by omega))
        have own8 : w7.ownsRow w2.heap.size 26 2 (.slice (some ⟨g2, 0, none⟩) V.length cap) V.length (pbs V) := by
          rw [HS2.out, List.length_append, pbs_append, show pbs [(⟨y, z⟩ : Pb)] = pbC ⟨y, z⟩ by simp [pbs]]; exact own7
        have HV : Hid (U.length + 1 = V.length) := by unfold Hid; rw [HS2.out]; simp
        (try clear k3_0 k3_f0 k3_1 k3_f1 k3_2 k3_f2 lt_k3) ; (try clear k6_0 k6_f0 k6_1 k6_f1 k6_2 k6_f2 lt_k6)
        clear own7 k3 k6 own c1 c2
        go_wp2
        go_roundw
        case rel => exact ⟨k + 1, some ⟨g2, 0, none⟩, cap, by omega, by go_num, by rw [hVe.out, ← HV.out], by rw [hVe.out]; exact own8, k3', k6', by omega, hb⟩
        case measure => simp [intOf]; omega
    · have hkl : k = l.length := by omega
      generalize hU : F k = U at *
      have hUR : Hid (U = l.filter fun p => !decide (p.who = u)) := by rw [← hU, hkl]; exact hFl.out
      have hcap := own_cap30 own
      clear hU hkl
      go_upto_region 10 with fail
      generalize hV : World.setCell wr _ _ = w5
      replace hb : Below w.heap.size w w5 := by subst hV; exact hb.setCell (Nat.le_refl _) _
      have kA : Bk w5 w.heap.size 24 (bsC W U.length cW a s) := by subst hV; exact k3.set_ 0 _
      have kB : Bk w5 (w.heap.size + 1) 24 (bsC none 0 0 0 0) := by subst hV; exact k6.far (by dsimp only; omega) _
      have own7 := own_far own (p := ⟨w.heap.size, 0, none⟩) (by dsimp only; omega) (.slice W U.length cW)
      replace own7 : w5.ownsRow w2.heap.size 26 2 (.slice W U.length cW) U.length (pbs U) := by subst hV; exact own7
      have hble := own_blk own7
      have hrd := own_rd own7
      clear hV own own7
      (try clear k3_0 k3_f0 k3_1 k3_f1 k3_2 k3_f2 lt_k3) ; (try clear k6_0 k6_f0 k6_1 k6_f1 k6_2 k6_f2 lt_k6)
      clear k3 k6
      have kA_0 := kA.cell 0; have kA_f0 := kA.frozen 0; have kA_1 := kA.cell 1; have kA_f1 := kA.frozen 1; have kA_2 := kA.cell 2; have kA_f2 := kA.frozen 2; simp only [List.set_cons_zero, List.set_cons_succ, List.getElem?_cons_zero, List.getElem?_cons_succ] at kA_0 kA_1 kA_2; have lt_kA := kA.lt; have kB_0 := kB.cell 0; have kB_f0 := kB.frozen 0; have kB_1 := kB.cell 1; have kB_f1 := kB.frozen 1; have kB_2 := kB.cell 2; have kB_f2 := kB.frozen 2; simp only [List.set_cons_zero, List.set_cons_succ, List.getElem?_cons_zero, List.getElem?_cons_succ] at kB_0 kB_1 kB_2; have lt_kB := kB.lt
      go_wp2_with (first | (refine wpList_store_row rfl 24 _ _ rfl _ (bsC W U.length cW a s).toArray rfl rfl _ _ kB (by kernel_rfl) (by kernel_rfl) (by kernel_rfl) ?_))
      have r6 := kB.srow (bsC W U.length cW a s)
      have hbr := srow_below hb (Nat.le_succ w.heap.size) (bsC W U.length cW a s).toArray
      have hrd2 := hrd.rowFar (g := w.heap.size + 1) (fun ad e => by have := (hble ad e).1; omega) (bsC W U.length cW a s).toArray
      exact bodyPost_ret (v := bsV W U.length cW a s) (results_cell_row rfl _ _ _ _ _ (0, 0) _ rfl r6 Try.underlying24 rfl (by kernel_rfl)) rfl ⟨_, rfl, by rw [hR.out, ← hUR.out]; exact ⟨W, cW, rfl, hcap.1, hrd2⟩, hbr⟩
end Go.Proofs.Ytfgfkiifekeeaaa
