/- Package batch: Put. -/
import Derived.Test.YtfgfkiifekeeaaaBa
import Derived.Test.YtfgfkiifekeeaaaC1
import Derived.Deep.RegionLawGrows
namespace Go.Proofs.Ytfgfkiifekeeaaa
open Go.RowKit Go.Shelf
set_option linter.unusedSimpArgs false
set_option linter.unusedVariables false

/-- a value that reads as a state of the program's -/
def BsAt (w : World) (V : Value) (x : Bs) : Prop := ∃ A c, V = bsV A x.l.length c x.asked x.saved ∧ x.l.length ≤ c ∧ Rd w w.heap.size A (pbs x.l)
theorem BsAt.step {w w' : World} {V : Value} {x : Bs} (h : BsAt w V x) (k : Below w.heap.size w w') : BsAt w' V x := by
  obtain ⟨A, c, e, hc, hr⟩ := h
  exact ⟨A, c, e, hc, hr.step k⟩
theorem rd_holds {w : World} {B : Nat} {A : Option Addr} {xs : List Value} (h : Rd w B A xs) : ∀ b, A = some b → ∀ j u, xs[j]? = some u → w.cell? (b.add j) = some u := by
  rintro b rfl j u hu
  obtain ⟨ad', e, _, hc⟩ := h (by rintro h0; rw [h0] at hu; simp at hu)
  injection e with e; subst e
  exact hc j u hu
theorem bk_none {W w' : World} {k : Nat} {t : TypeId} {cs : List Value} (h : Bk W k t cs) (hg : W.grownBy w' none) : Bk w' k t cs := (hg.block k h.lt (fun e => by cases e)).trans h
theorem rd_none {w : World} {B : Nat} {l : List Pb} (h : Rd w B none (pbs l)) : l = [] := by
  rcases l with _ | ⟨a, l⟩
  · rfl
  · obtain ⟨ad, h, _⟩ := h (by simp [pbs]); cases h
theorem own_mono30 {w : World} {base base' : Nat} {t : TypeId} {size : Nat} {v : Value} {n : Nat} {xs : List Value} (h : w.ownsRow base t size v n xs) (hb : base' ≤ base) : w.ownsRow base' t size v n xs := by
  refine ⟨h.1, ?_⟩
  rcases h.2 with h2 | ⟨g, cap, cur, hv, hg, r⟩
  · exact .inl h2
  · exact .inr ⟨g, cap, cur, hv, Nat.le_trans hb hg, r⟩
def PutPost (w : World) (x : Bs × Int) (e : Ending) (w' : World) : Prop := ∃ V, e = .returned (.tuple #[V, .int .i64 x.2]) ∧ BsAt w' V x.1 ∧ Below w.heap.size w w'
theorem bIn_iff {n : Int} (h : bIn n = true) : 0 ≤ n ∧ n ≤ 1099511627776 := by unfold bIn at h; simpa using h
theorem bCheck_ok {x : Bs} (h : bCheck x = 0) : x.l.length ≤ 64 ∧ x.l.all bFine = true ∧ x.l.Nodup ∧ bIn x.asked = true ∧ bIn x.saved = true := by
  unfold bCheck at h
  by_cases h1 : 64 < x.l.length
  · rw [if_pos h1] at h; cases h
  rw [if_neg h1] at h
  by_cases h2 : x.l.all bFine = false
  · rw [if_pos h2] at h; cases h
  rw [if_neg h2] at h
  by_cases h3 : x.l.Nodup
  · rw [if_neg (fun hh => hh h3)] at h
    by_cases h4 : (bIn x.asked && bIn x.saved) = false
    · rw [if_pos h4] at h; cases h
    · rw [Bool.not_eq_false, Bool.and_eq_true] at h4
      exact ⟨by omega, by simpa using h2, h3, h4.1, h4.2⟩
  · rw [if_pos h3] at h; cases h
theorem bCheck_of {x : Bs} (h1 : x.l.length ≤ 64) (h2 : x.l.all bFine = true) (h3 : x.l.Nodup) (h4 : bIn x.asked = true) (h5 : bIn x.saved = true) : bCheck x = 0 := by
  unfold bCheck
  rw [if_neg (by omega), if_neg (by rw [h2]; decide), if_neg (fun hh => hh h3), if_neg (by rw [h4, h5]; decide)]
set_option maxRecDepth 1000000 in
set_option maxHeartbeats 8000000 in
theorem batch_Put_any (A : Option Addr) (c : Nat) (l : List Pb) (a s : Int) (y z : ByteArray) (w : World) (hl : l.length ≤ 1000) (hc : l.length ≤ c) (hS : ∀ x ∈ l, Sm x) (hp : Sm ⟨y, z⟩) (hm : MW w) (ha : Rd w w.heap.size A (pbs l)) :
    Calls Try.prog 10 #[bsV A l.length c a s, .string y, .string z] w (PutPost w (bPut ⟨l, a, s⟩ ⟨y, z⟩)) := by
  have HC := fun (W : World) (h : Below w.heap.size w W) => batch_Check_any A c l a s W hl hc hS (hm.step h) ((ha.below h).more h.size)
  have HW := fun (W : World) (h : Below w.heap.size w W) => batch_wrong_any ⟨y, z⟩ hp W (hm.step h)
  have HN := fun (W : World) (h : Below w.heap.size w W) => pb_Contains A c l ⟨y, z⟩ W (by unfold maxLen; omega) ((ha.below h).more h.size)
  obtain ⟨R, hR⟩ : ∃ R, R = bPut ⟨l, a, s⟩ ⟨y, z⟩ := ⟨_, rfl⟩
  rw [← hR]
  unfold bPut at hR
  dsimp only at hR
  have hok : bCheck ⟨l, a, s⟩ = 0 → Hid (l.length ≤ 64 ∧ bIn s = true) := fun h => ⟨(bCheck_ok h).1, (bCheck_ok h).2.2.2.2⟩
  generalize bCheck ⟨l, a, s⟩ = C at *
  generalize bFine ⟨y, z⟩ = F at *
  replace hR := hide hR
  replace hok := hide hok
  go_enter Try.func10, Try.ntmps10
  go_wp2_with fail
  generalize hV : World.alloc (World.alloc w _) _ = w1
  have hb : Below w.heap.size w w1 := by subst hV; (repeat (first | with_reducible exact Below.refl _ _ | with_reducible assumption | with_reducible refine Below.drew ?_ | with_reducible refine Below.drewN ?_ _ | with_reducible refine Below.alloc1 ?_ _ | with_reducible refine Below.setCell1 ?_ (by first | omega | (simp; done) | (simp; omega)) _ | with_reducible refine Below.step ?_ (by with_reducible assumption)))
  have k3 : Bk w1 w.heap.size 31 (bsC A l.length c a s) := by subst hV; (repeat (first | with_reducible exact Bk.new' _ _ _ _ (by simp; done) | with_reducible assumption | with_reducible refine Bk.alloc ?_ _ | with_reducible refine Bk.drew ?_ | with_reducible refine Bk.drewN ?_ _ | with_reducible refine Bk.step ?_ (by with_reducible assumption) | with_reducible refine Bk.far ?_ (by first | omega | (simp; done) | (simp; omega)) _))
  have k6 : Bk w1 (w.heap.size + 1) 31 (bsC none 0 0 0 0) := by subst hV; (repeat (first | with_reducible exact Bk.new' _ _ _ _ (by simp; done) | with_reducible assumption | with_reducible refine Bk.alloc ?_ _ | with_reducible refine Bk.drew ?_ | with_reducible refine Bk.drewN ?_ _ | with_reducible refine Bk.step ?_ (by with_reducible assumption) | with_reducible refine Bk.far ?_ (by first | omega | (simp; done) | (simp; omega)) _))
  clear hV
  refine (HC _ hb).mono ?_; rintro e w2 ⟨rfl, hx⟩
  replace hb := hb.step hx
  replace k3 := k3.step hx
  replace k6 := k6.step hx
  clear hx HC
  have k3_0 := k3.cell 0; have k3_f0 := k3.frozen 0; have k3_1 := k3.cell 1; have k3_f1 := k3.frozen 1; have k3_2 := k3.cell 2; have k3_f2 := k3.frozen 2; simp only [List.set_cons_zero, List.set_cons_succ, List.getElem?_cons_zero, List.getElem?_cons_succ] at k3_0 k3_1 k3_2; have lt_k3 := k3.lt; have k6_0 := k6.cell 0; have k6_f0 := k6.frozen 0; have k6_1 := k6.cell 1; have k6_f1 := k6.frozen 1; have k6_2 := k6.cell 2; have k6_f2 := k6.frozen 2; simp only [List.set_cons_zero, List.set_cons_succ, List.getElem?_cons_zero, List.getElem?_cons_succ] at k6_0 k6_1 k6_2; have lt_k6 := k6.lt
  by_cases hC0 : C ≠ 0
  · have e0 : (C != 0) = true := by simpa using hC0
    -- (a
    replace hR := hide (hR.out.trans (if_pos hC0))
    clear hC0 hok
    go_wp2_with (first | (refine wpList_store_row rfl 31 _ _ rfl _ (bsC A l.length c a s).toArray rfl rfl _ _ k6 (by kernel_rfl) (by kernel_rfl) (by kernel_rfl) ?_))
    have r6 := k6.srow (bsC A l.length c a s)
    have hbr := srow_below hb (Nat.le_succ w.heap.size) (bsC A l.length c a s).toArray
    exact bodyPost_ret (v := .tuple #[bsV A l.length c a s, .int .i64 C]) (results_row_val rfl _ _ _ _ _ _ _ rfl rfl r6 Try.underlying31 rfl (by kernel_rfl)) rfl ⟨_, by rw [hR.out], by rw [hR.out]; exact ⟨A, c, rfl, hc, (ha.below hbr).more hbr.size⟩, hbr⟩
    -- a)
  obtain rfl : C = 0 := Classical.not_not.1 hC0
  clear hC0
  have hok2 := hok.out rfl
  replace hR := hide (hR.out.trans (if_neg (fun h => h rfl)))
  clear hok
  go_wp2_with fail
  generalize hV : World.alloc w2 _ = w3
  have hx : Below w2.heap.size w2 w3 := by subst hV; (repeat (first | with_reducible exact Below.refl _ _ | with_reducible assumption | with_reducible refine Below.drew ?_ | with_reducible refine Below.drewN ?_ _ | with_reducible refine Below.alloc1 ?_ _ | with_reducible refine Below.setCell1 ?_ (by first | omega | (simp; done) | (simp; omega)) _ | with_reducible refine Below.step ?_ (by with_reducible assumption)))
  have k9 : Bk w3 w2.heap.size 60 (pbC ⟨y, z⟩) := by subst hV; exact Bk.new w2 60 _
  clear hV
  replace hb := hb.step hx
  replace k3 := k3.step hx; (try clear k3_0 k3_f0 k3_1 k3_f1 k3_2 k3_f2); have k3_0 := k3.cell 0; have k3_f0 := k3.frozen 0; have k3_1 := k3.cell 1; have k3_f1 := k3.frozen 1; have k3_2 := k3.cell 2; have k3_f2 := k3.frozen 2; simp only [List.set_cons_zero, List.set_cons_succ, List.getElem?_cons_zero, List.getElem?_cons_succ] at k3_0 k3_1 k3_2; (try clear lt_k3); have lt_k3 := k3.lt; replace k6 := k6.step hx; (try clear k6_0 k6_f0 k6_1 k6_f1 k6_2 k6_f2); have k6_0 := k6.cell 0; have k6_f0 := k6.frozen 0; have k6_1 := k6.cell 1; have k6_f1 := k6.frozen 1; have k6_2 := k6.cell 2; have k6_f2 := k6.frozen 2; simp only [List.set_cons_zero, List.set_cons_succ, List.getElem?_cons_zero, List.getElem?_cons_succ] at k6_0 k6_1 k6_2; (try clear lt_k6); have lt_k6 := k6.lt
  clear hx
  have k9_0 := k9.cell 0; have k9_f0 := k9.frozen 0; have k9_1 := k9.cell 1; have k9_f1 := k9.frozen 1; simp only [List.set_cons_zero, List.set_cons_succ, List.getElem?_cons_zero, List.getElem?_cons_succ] at k9_0 k9_1; have lt_k9 := k9.lt
  refine (HW _ hb).mono ?_; rintro e w4 ⟨rfl, hx⟩
  replace hb := hb.step hx
  replace k3 := k3.step hx; (try clear k3_0 k3_f0 k3_1 k3_f1 k3_2 k3_f2); have k3_0 := k3.cell 0; have k3_f0 := k3.frozen 0; have k3_1 := k3.cell 1; have k3_f1 := k3.frozen 1; have k3_2 := k3.cell 2; have k3_f2 := k3.frozen 2; simp only [List.set_cons_zero, List.set_cons_succ, List.getElem?_cons_zero, List.getElem?_cons_succ] at k3_0 k3_1 k3_2; (try clear lt_k3); have lt_k3 := k3.lt; replace k6 := k6.step hx; (try clear k6_0 k6_f0 k6_1 k6_f1 k6_2 k6_f2); have k6_0 := k6.cell 0; have k6_f0 := k6.frozen 0; have k6_1 := k6.cell 1; have k6_f1 := k6.frozen 1; have k6_2 := k6.cell 2; have k6_f2 := k6.frozen 2; simp only [List.set_cons_zero, List.set_cons_succ, List.getElem?_cons_zero, List.getElem?_cons_succ] at k6_0 k6_1 k6_2; (try clear lt_k6); have lt_k6 := k6.lt; replace k9 := k9.step hx; (try clear k9_0 k9_f0 k9_1 k9_f1); have k9_0 := k9.cell 0; have k9_f0 := k9.frozen 0; have k9_1 := k9.cell 1; have k9_f1 := k9.frozen 1; simp only [List.set_cons_zero, List.set_cons_succ, List.getElem?_cons_zero, List.getElem?_cons_succ] at k9_0 k9_1; (try clear lt_k9); have lt_k9 := k9.lt
  clear hx HW
  cases F with
  | false =>
    -- (b
    replace hR := hide (hR.out.trans (if_pos rfl))
    go_wp2_with (first | (refine wpList_store_row rfl 31 _ _ rfl _ (bsC A l.length c a s).toArray rfl rfl _ _ k6 (by kernel_rfl) (by kernel_rfl) (by kernel_rfl) ?_))
    have r6 := k6.srow (bsC A l.length c a s)
    have hbr := srow_below hb (Nat.le_succ w.heap.size) (bsC A l.length c a s).toArray
    exact bodyPost_ret (v := .tuple #[bsV A l.length c a s, .int .i64 11]) (results_row_val rfl _ _ _ _ _ _ _ rfl rfl r6 Try.underlying31 rfl (by kernel_rfl)) rfl ⟨_, by rw [hR.out], by rw [hR.out]; exact ⟨A, c, rfl, hc, (ha.below hbr).more hbr.size⟩, hbr⟩
    -- b)
  | true =>
    replace hR := hide (hR.out.trans (if_neg (by decide)))
    go_wp2_with fail
    refine (HN _ hb).mono ?_; rintro e w5 ⟨rfl, hx⟩
    replace hb := hb.step hx
    replace k3 := k3.step hx; (try clear k3_0 k3_f0 k3_1 k3_f1 k3_2 k3_f2); have k3_0 := k3.cell 0; have k3_f0 := k3.frozen 0; have k3_1 := k3.cell 1; have k3_f1 := k3.frozen 1; have k3_2 := k3.cell 2; have k3_f2 := k3.frozen 2; simp only [List.set_cons_zero, List.set_cons_succ, List.getElem?_cons_zero, List.getElem?_cons_succ] at k3_0 k3_1 k3_2; (try clear lt_k3); have lt_k3 := k3.lt; replace k6 := k6.step hx; (try clear k6_0 k6_f0 k6_1 k6_f1 k6_2 k6_f2); have k6_0 := k6.cell 0; have k6_f0 := k6.frozen 0; have k6_1 := k6.cell 1; have k6_f1 := k6.frozen 1; have k6_2 := k6.cell 2; have k6_f2 := k6.frozen 2; simp only [List.set_cons_zero, List.set_cons_succ, List.getElem?_cons_zero, List.getElem?_cons_succ] at k6_0 k6_1 k6_2; (try clear lt_k6); have lt_k6 := k6.lt; replace k9 := k9.step hx; (try clear k9_0 k9_f0 k9_1 k9_f1); have k9_0 := k9.cell 0; have k9_f0 := k9.frozen 0; have k9_1 := k9.cell 1; have k9_f1 := k9.frozen 1; simp only [List.set_cons_zero, List.set_cons_succ, List.getElem?_cons_zero, List.getElem?_cons_succ] at k9_0 k9_1; (try clear lt_k9); have lt_k9 := k9.lt
    clear hx HN
    by_cases hin : (⟨y, z⟩ : Pb) ∈ l
    · rw [decide_eq_true hin]
      -- (c
      replace hR := hide (hR.out.trans (if_pos hin))
      clear hin
      have hs := bIn_iff hok2.out.2
      clear hok2
      obtain ⟨h0, h1⟩ := hs
      go_upto_region 9 with fail
      generalize hV : World.setCell w5 _ _ = w6
      replace hb : Below w.heap.size w w6 := by subst hV; exact hb.setCell (Nat.le_refl _) _
      have kA : Bk w6 w.heap.size 31 (bsC A l.length c a (min (s + 1) 1099511627776)) := by subst hV; exact k3.set_ 2 _
      have kB : Bk w6 (w.heap.size + 1) 31 (bsC none 0 0 0 0) := by subst hV; exact k6.far (by dsimp only; omega) _
      clear hV
      (try clear k3_0 k3_f0 k3_1 k3_f1 k3_2 k3_f2 lt_k3) ; (try clear k6_0 k6_f0 k6_1 k6_f1 k6_2 k6_f2 lt_k6)
      clear k3 k6
      have kA_0 := kA.cell 0; have kA_f0 := kA.frozen 0; have kA_1 := kA.cell 1; have kA_f1 := kA.frozen 1; have kA_2 := kA.cell 2; have kA_f2 := kA.frozen 2; simp only [List.set_cons_zero, List.set_cons_succ, List.getElem?_cons_zero, List.getElem?_cons_succ] at kA_0 kA_1 kA_2; have lt_kA := kA.lt; have kB_0 := kB.cell 0; have kB_f0 := kB.frozen 0; have kB_1 := kB.cell 1; have kB_f1 := kB.frozen 1; have kB_2 := kB.cell 2; have kB_f2 := kB.frozen 2; simp only [List.set_cons_zero, List.set_cons_succ, List.getElem?_cons_zero, List.getElem?_cons_succ] at kB_0 kB_1 kB_2; have lt_kB := kB.lt
      go_wp2_with (first | (refine wpList_store_row rfl 31 _ _ rfl _ (bsC A l.length c a (min (s + 1) 1099511627776)).toArray rfl rfl _ _ kB (by kernel_rfl) (by kernel_rfl) (by kernel_rfl) ?_))
      have r6 := kB.srow (bsC A l.length c a (min (s + 1) 1099511627776))
      have hbr := srow_below hb (Nat.le_succ w.heap.size) (bsC A l.length c a (min (s + 1) 1099511627776)).toArray
      exact bodyPost_ret (v := .tuple #[bsV A l.length c a (min (s + 1) 1099511627776), .int .i64 0]) (results_row_val rfl _ _ _ _ _ _ _ rfl rfl r6 Try.underlying31 rfl (by kernel_rfl)) rfl ⟨_, by rw [hR.out], by rw [hR.out]; exact ⟨A, c, rfl, hc, (ha.below hbr).more hbr.size⟩, hbr⟩
      -- c)
    · rw [decide_eq_false hin]
      replace hR := hide (hR.out.trans (if_neg hin))
      clear hin
      have h64 := hok2.out.1
      clear hok2
      by_cases hn : l.length = 64
      · have e0 : ((l.length : Int) == 64) = true := by rw [beq_iff_eq]; omega
        replace hR := hide (hR.out.trans (if_pos hn))
        clear hn h64
        -- (d
        go_wp2_with (first | (refine wpList_store_row rfl 31 _ _ rfl _ (bsC A l.length c a s).toArray rfl rfl _ _ k6 (by kernel_rfl) (by kernel_rfl) (by kernel_rfl) ?_))
        have r6 := k6.srow (bsC A l.length c a s)
        have hbr := srow_below hb (Nat.le_succ w.heap.size) (bsC A l.length c a s).toArray
        exact bodyPost_ret (v := .tuple #[bsV A l.length c a s, .int .i64 7]) (results_row_val rfl _ _ _ _ _ _ _ rfl rfl r6 Try.underlying31 rfl (by kernel_rfl)) rfl ⟨_, by rw [hR.out], by rw [hR.out]; exact ⟨A, c, rfl, hc, (ha.below hbr).more hbr.size⟩, hbr⟩
        -- d)
      · have e0 : ((l.length : Int) == 64) = false := by rw [beq_eq_false_iff_ne]; omega
        replace hR := hide (hR.out.trans (if_neg hn))
        clear hn
        obtain ⟨iT, hi, hz0, hz1, hz2⟩ := info_parts pb_info
        have hlen := pbs_length l
        have hA0 : A = none → l.length = 0 ∧ l.length = 0 := fun h => by subst h; rw [rd_none ha]; exact ⟨rfl, rfl⟩
        have hra := (ha.below hb).more hb.size
        have HL := hide hlen
        have HA := hide hA0
        clear hlen hA0
        go_upto_region 13 with fail
        go_region_law (refine step_append_grows rfl (.tmp 48) (.tmp 50) 29 rfl 60 iT _ 2 32 Try.underlying29 hi hz0 hz1 hz2 rfl (by omega) A l.length l.length (pbs l) (by simp [Act.eval, Act.put]) HA.out (by rw [HL.out]; omega) (rd_holds (Rd.drew1 (Rd.alloc1 hra _))) ⟨w5.heap.size, 0, none⟩ 1 1 (pbC ⟨y, z⟩) (by simp [Act.eval, Act.put]) rfl (news_at (cs := [_, _])) (by simp [Value.oneCell']) (by omega) (by unfold maxLen; omega) (by omega) ?_; intro vA w6 own6 hg6; (obtain ⟨A6, c6, rfl⟩ := own_form own6); (have kz := bk_none (Bk.drew (k3.alloc _)) hg6); (have kz_0 := kz.cell 0); (have kz_f0 := kz.frozen 0); simp only [List.getElem?_cons_zero, bsC] at kz_0; (have lz := kz.lt))
        all_goals
          go_upto_region 14 with fail
          have hs5 : w.heap.size + 1 < w5.heap.size := lt_k6
          have hb6 : Below w.heap.size w w6 := (Below.drew (hb.alloc1 _)).trans ((Below.refl w.heap.size _).grown hg6 (by simp; omega) (fun k hk => by cases hk))
          have kB0 := bk_none (Bk.drew (k6.alloc _)) hg6
          generalize hV : World.setCell w6 _ _ = w7
          have hb7 : Below w.heap.size w w7 := by subst hV; exact hb6.setCell (Nat.le_refl _) _
          have kA : Bk w7 w.heap.size 31 (bsC A6 (l.length + 1) c6 a s) := by subst hV; exact kz.set_ 0 _
          have kB : Bk w7 (w.heap.size + 1) 31 (bsC none 0 0 0 0) := by subst hV; exact kB0.far (by dsimp only; omega) _
          have own7 : w7.ownsRow (w.heap.size + 2) 60 2 (.slice A6 (l.length + 1) c6) (l.length + 1) (pbs (l ++ [⟨y, z⟩])) := by
            subst hV
            rw [pbs_append, show pbs [(⟨y, z⟩ : Pb)] = pbC ⟨y, z⟩ by simp [pbs]]
            exact own_far (own_mono30 own6 (by simp; omega)) (by dsimp only; omega) _
          have hcap := own_cap30 own7
          have hble := own_blk own7
          have hrd := own_rd own7
          clear hV kz kz_0 kz_f0 lz kB0 own6 hg6 hra own7
          (try clear k3_0 k3_f0 k3_1 k3_f1 k3_2 k3_f2 lt_k3) ; (try clear k6_0 k6_f0 k6_1 k6_f1 k6_2 k6_f2 lt_k6) ; (try clear k9_0 k9_f0 k9_1 k9_f1 lt_k9)
          clear k3 k6 k9
          have kA_0 := kA.cell 0; have kA_f0 := kA.frozen 0; have kA_1 := kA.cell 1; have kA_f1 := kA.frozen 1; have kA_2 := kA.cell 2; have kA_f2 := kA.frozen 2; simp only [List.set_cons_zero, List.set_cons_succ, List.getElem?_cons_zero, List.getElem?_cons_succ] at kA_0 kA_1 kA_2; have lt_kA := kA.lt; have kB_0 := kB.cell 0; have kB_f0 := kB.frozen 0; have kB_1 := kB.cell 1; have kB_f1 := kB.frozen 1; have kB_2 := kB.cell 2; have kB_f2 := kB.frozen 2; simp only [List.set_cons_zero, List.set_cons_succ, List.getElem?_cons_zero, List.getElem?_cons_succ] at kB_0 kB_1 kB_2; have lt_kB := kB.lt
          go_wp2_with (first | (refine wpList_store_row rfl 31 _ _ rfl _ (bsC A6 (l.length + 1) c6 a s).toArray rfl rfl _ _ kB (by kernel_rfl) (by kernel_rfl) (by kernel_rfl) ?_))
          have r6 := kB.srow (bsC A6 (l.length + 1) c6 a s)
          have hbr := srow_below hb7 (Nat.le_succ w.heap.size) (bsC A6 (l.length + 1) c6 a s).toArray
          have hrd2 := hrd.rowFar (g := w.heap.size + 1) (fun ad e => by have := (hble ad e).1; omega) (bsC A6 (l.length + 1) c6 a s).toArray
          exact bodyPost_ret (v := .tuple #[bsV A6 (l.length + 1) c6 a s, .int .i64 0]) (results_row_val rfl _ _ _ _ _ _ _ rfl rfl r6 Try.underlying31 rfl (by kernel_rfl)) rfl ⟨_, by rw [hR.out], by rw [hR.out]; exact ⟨A6, c6, by simp, by simpa using hcap.1, hrd2⟩, hbr⟩
end Go.Proofs.Ytfgfkiifekeeaaa
