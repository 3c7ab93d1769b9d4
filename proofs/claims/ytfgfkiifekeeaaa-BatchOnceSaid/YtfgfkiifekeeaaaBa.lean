/- Package batch: pres.Split, wrong, in, Check. -/
import Derived.Test.YtfgfkiifekeeaaaPb
import Derived.Test.YtfgfkiifekeeaaaAd6
import Derived.Test.YtfgfkiifekeeaaaC1
namespace Go.Proofs.Ytfgfkiifekeeaaa
open Go.RowKit Go.Shelf
set_option linter.unusedSimpArgs false
set_option linter.unusedVariables false

set_option maxRecDepth 100000 in
set_option maxHeartbeats 4000000 in
theorem pres_Split_any (s : ByteArray) (hs : s.size ≤ 1000000) (w : World) (hm : MW w) : Calls Try.prog 40 #[.string s] w fun e w' =>
    e = .returned (.tuple #[.string (strOf (sSplit s.data.toList).1.1), .string (strOf (sSplit s.data.toList).1.2), .int .i64 (sSplit s.data.toList).2]) ∧ Below w.heap.size w w' := by
  obtain ⟨R, hR⟩ : ∃ R, R = sSplit s.data.toList := ⟨_, rfl⟩
  rw [← hR]
  unfold sSplit at hR
  have c1 : ∀ W m, W.cell? ⟨0, 0, none⟩ = some (.int .i64 m) → Calls Try.prog 47 #[.string s, .string ⟨#[32]⟩] W fun e w' => e = .returned (.tuple #[.string (strOf (Lib.cut s.data.toList [32]).1), .string (strOf (Lib.cut s.data.toList [32]).2.1), .bool (Lib.cut s.data.toList [32]).2.2]) ∧ ∃ n, w' = W.drewN n :=
    fun W m h => Try.strings_Cut s ⟨#[32]⟩ m W (by omega) h
  have l1 := cut_len s.data.toList [32]
  rw [list_size] at l1
  generalize Lib.cut s.data.toList [32] = c at *
  obtain ⟨f, r, sl⟩ := c
  dsimp only at c1 l1 hR
  have k0 := fun W hW => addr_IsBare_any (strOf f) (by rw [strOf_size]; omega) W hW
  have k1 := fun W => addr_Resource_any (strOf r) (by rw [strOf_size]; omega) W
  rw [strOf_list] at k0 k1
  generalize aIsBare f = ib at *
  generalize aRes r = ar at *
  have hm' := hm
  obtain ⟨m1, hm1⟩ := hm'
  go_enter Try.func40, Try.ntmps40
  go_wp2_with fail
  refine (c1 _ m1 hm1).mono ?_; rintro e w1 ⟨rfl, hd⟩
  have hb : Below w.heap.size w w1 := by obtain ⟨n, rfl⟩ := hd; exact (Below.refl _ _).drewN n
  clear hd c1 hm1 m1 l1
  cases sl with
  | false =>
    replace hR := hide (hR.trans (if_pos rfl))
    go_wp2
    go_ret3
    exact ⟨by rw [hR.out]; rfl, hb⟩
  | true =>
    replace hR := hR.trans (if_neg (by decide))
    go_wp2_with fail
    refine (k0 _ (hm.step hb)).mono ?_; rintro e w2 ⟨rfl, h2⟩
    replace hb := hb.step h2
    clear h2 k0
    cases ib with
    | false =>
      replace hR := hide (hR.trans (if_pos rfl))
      go_wp2
      go_ret3
      exact ⟨by rw [hR.out]; rfl, hb⟩
    | true =>
      replace hR := hR.trans (if_neg (by decide))
      go_wp2_with fail
      refine (k1 _).mono ?_; rintro e w3 ⟨rfl, h3⟩
      replace hb := hb.step h3
      clear h3 k1
      by_cases h0 : ar = 0
      · subst h0
        replace hR := hide (hR.trans (if_neg (fun h => h rfl)))
        go_wp2
        go_ret3
        exact ⟨by rw [hR.out]; rfl, hb⟩
      · have e0 : (ar != 0) = true := by simpa using h0
        replace hR := hide (hR.trans (if_pos h0))
        clear h0
        go_wp2
        go_ret3
        exact ⟨by rw [hR.out]; rfl, hb⟩
set_option maxRecDepth 100000 in
theorem batch_wrong_any (x : Pb) (hx : Sm x) (w : World) (hm : MW w) : Calls Try.prog 29 #[pbV x] w fun e w' => e = .returned (.bool (!bFine x)) ∧ Below w.heap.size w w' := by
  obtain ⟨y, z⟩ := x
  have k0 := fun W hW => pres_Split_any y (by have := hx.1; dsimp only at this; omega) W hW
  have k1 := fun W hW => addr_IsBare_any z (by have := hx.2; dsimp only at this; omega) W hW
  obtain ⟨R, hR⟩ : ∃ R, R = !bFine ⟨y, z⟩ := ⟨_, rfl⟩
  rw [← hR]
  unfold bFine at hR
  dsimp only at hR
  generalize sSplit y.data.toList = S at *
  obtain ⟨⟨s1, s2⟩, s3⟩ := S
  dsimp only at k0 hR
  generalize aIsBare z.data.toList = ib at *
  clear hx
  go_enter Try.func29, Try.ntmps29
  go_wp2_with fail
  generalize hV : World.alloc w _ = w1
  have hb : Below w.heap.size w w1 := by subst hV; (repeat (first | with_reducible exact Below.refl _ _ | with_reducible assumption | with_reducible refine Below.drew ?_ | with_reducible refine Below.drewN ?_ _ | with_reducible refine Below.alloc1 ?_ _ | with_reducible refine Below.setCell1 ?_ (by first | omega | (simp; done) | (simp; omega)) _ | with_reducible refine Below.step ?_ (by with_reducible assumption)))
  have kv : Bk w1 w.heap.size 60 [.string y, .string z] := by subst hV; (repeat (first | with_reducible exact Bk.new' _ _ _ _ (by simp; done) | with_reducible assumption | with_reducible refine Bk.alloc ?_ _ | with_reducible refine Bk.drew ?_ | with_reducible refine Bk.drewN ?_ _ | with_reducible refine Bk.step ?_ (by with_reducible assumption) | with_reducible refine Bk.far ?_ (by first | omega | (simp; done) | (simp; omega)) _))
  clear hV
  replace hm := hm.step hb
  refine (k0 _ hm).mono ?_; rintro e w2 ⟨rfl, h2⟩
  replace hb := hb.step h2
  replace hm := hm.step h2
  replace kv := kv.step h2
  clear h2 k0
  have kv_0 := kv.cell 0; have kv_f0 := kv.frozen 0; have kv_1 := kv.cell 1; have kv_f1 := kv.frozen 1; simp only [List.set_cons_zero, List.set_cons_succ, List.getElem?_cons_zero, List.getElem?_cons_succ] at kv_0 kv_1; have lt_kv := kv.lt
  by_cases h0 : s3 = 0
  · subst h0
    replace hR := hide hR
    go_wp2_with fail
    refine (k1 _ hm).mono ?_; rintro e w3 ⟨rfl, h3⟩
    replace hb := hb.step h3
    clear h3
    go_wp2
    go_ret
    exact ⟨ret_bool (by rw [hR.out]; simp), hb⟩
  · have e0 : (s3 != 0) = true := by simpa using h0
    have hR' : R = true := by rw [hR, decide_eq_false h0]; rfl
    clear hR h0
    subst hR'
    go_wp2
    go_ret
    exact ⟨rfl, hb⟩
theorem batch_in_any (n : Int) (w : World) : Calls Try.prog 37 #[.int .i64 n] w fun e w' => e = .returned (.bool (bIn n)) ∧ w = w' := by
  by_cases h1 : 0 ≤ n <;> by_cases h2 : n ≤ 1099511627776
  all_goals
    go_enter Try.func37, Try.ntmps37
    go_wp2
    go_ret
    exact ⟨ret_bool (by simp [bIn, *]), rfl⟩
/-- a state's value -/
abbrev bsC (A : Option Addr) (n c : Nat) (a s : Int) : List Value := [.slice A n c, .int .i64 a, .int .i64 s]
abbrev bsV (A : Option Addr) (n c : Nat) (a s : Int) : Value := .agg #[.slice A n c, .int .i64 a, .int .i64 s]
theorem nodup_snoc (l : List Pb) (k : Nat) (h : k < l.length) : (l.take (k + 1)).Nodup ↔ (l.take k).Nodup ∧ l[k] ∉ l.take k := by
  rw [take_snocL l k h, List.nodup_append]
  simp
  intro _
  exact ⟨fun h hm => h _ hm rfl, fun h a ha e => h (e ▸ ha)⟩
theorem nodup_take (l : List Pb) (k : Nat) (h : l.Nodup) : (l.take k).Nodup := h.sublist (List.take_sublist k l)
theorem pb_any_wrong (l : List Pb) : (l.any fun x => !bFine x) = !l.all bFine := by
  rw [List.any_eq_not_all_not]; simp
set_option maxRecDepth 100000 in
set_option maxHeartbeats 4000000 in
theorem batch_Check_any (A : Option Addr) (c : Nat) (l : List Pb) (a s : Int) (w : World) (hl : l.length ≤ 1000) (hc : l.length ≤ c) (hS : ∀ x ∈ l, Sm x) (hm : MW w) (ha : Rd w w.heap.size A (pbs l)) :
    Calls Try.prog 20 #[bsV A l.length c a s] w fun e w' => e = .returned (.int .i64 (bCheck ⟨l, a, s⟩)) ∧ Below w.heap.size w w' := by
  have eg : ∀ args w, (callFunc 29 args).run Try.prog w = .ok (.enter 29 args) w := enters_of Try.func29 (by kernel_rfl) rfl
  have hW := fun (W : World) (h : Below w.heap.size w W) => pb_ContainsFunc 29 #[] (fun x => !bFine x) W eg l (fun x hx W' h' => batch_wrong_any x (hS x hx) W' ((hm.step h).step h')) A c (by unfold maxLen; omega) ((ha.below h).more h.size)
  have hC := fun (k : Nat) (hk : k < l.length) (v : Pb) (W : World) (h : Below w.heap.size w W) => pb_Contains A c (l.take k) v W (by rw [List.length_take]; unfold maxLen; omega) ((((ha.take (k * 2)).below h)).more h.size |> fun r => by rw [pbs_take] at r; exact r)
  simp only [List.length_take] at hC
  have i0 := fun W => batch_in_any a W
  have i1 := fun W => batch_in_any s W
  have hel : Try.prog.elem 29 = 60 := by kernel_rfl
  have hsz : ∀ W, (sizeOf 60).run Try.prog W = .ok 2 W := fun W => by kernel_rfl
  rw [pb_any_wrong] at hW
  clear eg
  obtain ⟨R, hR⟩ : ∃ R, R = bCheck ⟨l, a, s⟩ := ⟨_, rfl⟩
  rw [← hR]
  unfold bCheck at hR
  dsimp only at hR
  by_cases h2 : 64 < l.length
  · have g2 : (64 : Int) < (l.length : Int) := by omega
    replace hR := hide (hR.trans (if_pos h2))
    clear h2
    go_enter Try.func20, Try.ntmps20
    go_wp2_with fail
    go_ret
    exact ⟨ret_int hR.out.symm, by (repeat (first | with_reducible exact Below.refl _ _ | with_reducible assumption | with_reducible refine Below.drew ?_ | with_reducible refine Below.drewN ?_ _ | with_reducible refine Below.alloc1 ?_ _ | with_reducible refine Below.setCell1 ?_ (by first | omega | (simp; done) | (simp; omega)) _ | with_reducible refine Below.step ?_ (by with_reducible assumption)))⟩
  replace hR := hR.trans (if_neg h2)
  have g2 : (l.length : Int) ≤ 64 := by omega
  have g3 := hide h2
  clear h2
  cases hall : l.all bFine with
  | false =>
    rw [hall] at hW
    replace hR := hide (hR.trans (if_pos hall))
    clear hall hC i0 i1
    go_enter Try.func20, Try.ntmps20
    go_wp2_with fail
    refine (hW _ (by (repeat (first | with_reducible exact Below.refl _ _ | with_reducible assumption | with_reducible refine Below.drew ?_ | with_reducible refine Below.drewN ?_ _ | with_reducible refine Below.alloc1 ?_ _ | with_reducible refine Below.setCell1 ?_ (by first | omega | (simp; done) | (simp; omega)) _ | with_reducible refine Below.step ?_ (by with_reducible assumption))))).mono ?_; rintro e w2 ⟨rfl, h2⟩
    have hb : Below w.heap.size w w2 := (show Below w.heap.size w _ by (repeat (first | with_reducible exact Below.refl _ _ | with_reducible assumption | with_reducible refine Below.drew ?_ | with_reducible refine Below.drewN ?_ _ | with_reducible refine Below.alloc1 ?_ _ | with_reducible refine Below.setCell1 ?_ (by first | omega | (simp; done) | (simp; omega)) _ | with_reducible refine Below.step ?_ (by with_reducible assumption)))).step h2
    clear h2
    go_wp2
    go_ret
    exact ⟨ret_int hR.out.symm, hb⟩
  | true =>
    rw [hall] at hW
    replace hR := hide (hR.trans (if_neg (by rw [hall]; decide)))
    clear hall
    go_enter Try.func20, Try.ntmps20
    go_wp2_with fail
    generalize hV : World.alloc w _ = w1
    have hb : Below w.heap.size w w1 := by subst hV; (repeat (first | with_reducible exact Below.refl _ _ | with_reducible assumption | with_reducible refine Below.drew ?_ | with_reducible refine Below.drewN ?_ _ | with_reducible refine Below.alloc1 ?_ _ | with_reducible refine Below.setCell1 ?_ (by first | omega | (simp; done) | (simp; omega)) _ | with_reducible refine Below.step ?_ (by with_reducible assumption)))
    have k0 : Bk w1 w.heap.size 31 (bsC A l.length c a s) := by subst hV; (repeat (first | with_reducible exact Bk.new' _ _ _ _ (by simp; done) | with_reducible assumption | with_reducible refine Bk.alloc ?_ _ | with_reducible refine Bk.drew ?_ | with_reducible refine Bk.drewN ?_ _ | with_reducible refine Bk.step ?_ (by with_reducible assumption) | with_reducible refine Bk.far ?_ (by first | omega | (simp; done) | (simp; omega)) _))
    clear hV
    refine (hW _ hb).mono ?_; rintro e w2 ⟨rfl, h2⟩
    replace hb := hb.step h2
    replace k0 := k0.step h2
    clear h2 hW
    have hg0 := k0.lt
    have k0_0 := k0.cell 0; have k0_f0 := k0.frozen 0; have k0_1 := k0.cell 1; have k0_f1 := k0.frozen 1; have k0_2 := k0.cell 2; have k0_f2 := k0.frozen 2; simp only [List.set_cons_zero, List.set_cons_succ, List.getElem?_cons_zero, List.getElem?_cons_succ] at k0_0 k0_1 k0_2; have lt_k0 := k0.lt
    go_wp2_with fail
    go_loopw [15] (fun i wr => ∃ k : Nat, k ≤ l.length ∧ i = .int .i64 k ∧ Hid ((l.take k).Nodup) ∧ Bk wr w.heap.size 31 (bsC A l.length c a s) ∧ Below w.heap.size w wr) (fun i _ => l.length - (intOf i).toNat)
    case atStart => exact ⟨0, Nat.zero_le _, rfl, by simp [Hid], k0, hb⟩
    case round =>
      (try clear k0_0 k0_f0 k0_1 k0_f1 k0_2 k0_f2 lt_k0)
      clear k0 hb hg0
      obtain ⟨k, hk, rfl, HN, k0, hb⟩ := hrel
      have k0_0 := k0.cell 0; have k0_f0 := k0.frozen 0; have k0_1 := k0.cell 1; have k0_f1 := k0.frozen 1; have k0_2 := k0.cell 2; have k0_f2 := k0.frozen 2; simp only [List.set_cons_zero, List.set_cons_succ, List.getElem?_cons_zero, List.getElem?_cons_succ] at k0_0 k0_1 k0_2; have lt_k0 := k0.lt
      by_cases hlt : k < l.length
      · obtain ⟨ad, rfl, hadb, c1, c2⟩ := (ha.below hb).pb hlt
        have hmin : min k l.length = k := by omega
        have HC := hC k hlt l[k]
        rw [hmin] at HC
        obtain ⟨st1, st2⟩ := to_runA Try.underlying29 hel hsz (some ad) k l.length c (k : Int) rfl (by omega)
        have HS := hide (nodup_snoc l k hlt)
        generalize hx : l[k] = x at *
        replace hx := hide hx
        clear hmin hC
        go_upto_region 8 with fail
        generalize hV : World.alloc wr _ = w3
        have h3 : Below wr.heap.size wr w3 := by subst hV; (repeat (first | with_reducible exact Below.refl _ _ | with_reducible assumption | with_reducible refine Below.drew ?_ | with_reducible refine Below.drewN ?_ _ | with_reducible refine Below.alloc1 ?_ _ | with_reducible refine Below.setCell1 ?_ (by first | omega | (simp; done) | (simp; omega)) _ | with_reducible refine Below.step ?_ (by with_reducible assumption)))
        have kx : Bk w3 wr.heap.size 60 (pbC x) := by subst hV; (repeat (first | with_reducible exact Bk.new' _ _ _ _ (by simp; done) | with_reducible assumption | with_reducible refine Bk.alloc ?_ _ | with_reducible refine Bk.drew ?_ | with_reducible refine Bk.drewN ?_ _ | with_reducible refine Bk.step ?_ (by with_reducible assumption) | with_reducible refine Bk.far ?_ (by first | omega | (simp; done) | (simp; omega)) _))
        clear hV c1 c2
        replace k0 := k0.step h3; (try clear k0_0 k0_f0 k0_1 k0_f1 k0_2 k0_f2); have k0_0 := k0.cell 0; have k0_f0 := k0.frozen 0; have k0_1 := k0.cell 1; have k0_f1 := k0.frozen 1; have k0_2 := k0.cell 2; have k0_f2 := k0.frozen 2; simp only [List.set_cons_zero, List.set_cons_succ, List.getElem?_cons_zero, List.getElem?_cons_succ] at k0_0 k0_1 k0_2; (try clear lt_k0); have lt_k0 := k0.lt
        replace hb := hb.step h3
        clear h3
        have kx_0 := kx.cell 0; have kx_f0 := kx.frozen 0; have kx_1 := kx.cell 1; have kx_f1 := kx.frozen 1; simp only [List.set_cons_zero, List.set_cons_succ, List.getElem?_cons_zero, List.getElem?_cons_succ] at kx_0 kx_1; have lt_kx := kx.lt
        by_cases hin : x ∈ l.take k
        · rw [decide_eq_true hin] at HC
          have hR2 : R = 13 := hR.out.trans (if_pos (fun hnd => by
            have := nodup_take l (k + 1) hnd
            rw [HS.out] at this
            exact this.2 hin))
          clear hR HS hin HN
          (refine wp_region_qb (by kernel_rfl) (by kernel_rfl) (fun kq => ?_); (try dsimp only [List.append]); (repeat (go_big_quiet_step (((go_at_call 30; exact (HC _ (hb.step (below_regrown _ _ _))).qb))))); refine wpQuiet_nil ?_; intro wq hwq; have hbq := below_of_class hwq; clear hwq kq)
          replace hb := hb.step hbq
          subst hR2
          go_wp2
          go_ret
          exact ⟨rfl, hb⟩
        · rw [decide_eq_false hin] at HC
          have HN2 : Hid ((l.take (k + 1)).Nodup) := HS.out.2 ⟨HN.out, hin⟩
          clear HS hin HN
          (refine wp_region_qb (by kernel_rfl) (by kernel_rfl) (fun kq => ?_); (try dsimp only [List.append]); (repeat (go_big_quiet_step (((go_at_call 30; exact (HC _ (hb.step (below_regrown _ _ _))).qb))))); refine wpQuiet_nil ?_; intro wq hwq; have hbq := below_of_class hwq; clear hwq kq)
          replace hb := hb.step hbq
          replace k0 := k0.step hbq
          clear hbq HC
          go_wp2
          go_roundw
          case rel => exact ⟨k + 1, by omega, by go_num, HN2, k0, hb⟩
          case measure => simp [intOf]; omega
      · have hkl : k = l.length := by omega
        have hR2 := hR.out.trans (if_neg (fun h => h (by have := HN.out; rwa [hkl, List.take_length] at this)))
        clear HN hR hC
        cases hA : bIn a with
        | false =>
          rw [hA] at i0
          have hR3 : R = 8 := hR2.trans (if_pos (by rw [hA]; rfl))
          clear hR2 hA
          subst hR3
          go_wp2_with fail
          refine (i0 _).mono ?_; rintro e w4 ⟨rfl, rfl⟩
          go_wp2
          go_ret
          exact ⟨rfl, hb⟩
        | true =>
          rw [hA] at i0
          cases hB : bIn s with
          | false =>
            rw [hB] at i1
            have hR3 : R = 8 := hR2.trans (if_pos (by rw [hA, hB]; rfl))
            clear hR2 hA hB
            subst hR3
            go_wp2_with fail
            refine (i0 _).mono ?_; rintro e w4 ⟨rfl, rfl⟩
            go_wp2_with fail
            refine (i1 _).mono ?_; rintro e w4 ⟨rfl, rfl⟩
            go_wp2
            go_ret
            exact ⟨rfl, hb⟩
          | true =>
            rw [hB] at i1
            have hR3 : R = 0 := hR2.trans (if_neg (by rw [hA, hB]; decide))
            clear hR2 hA hB
            subst hR3
            go_wp2_with fail
            refine (i0 _).mono ?_; rintro e w4 ⟨rfl, rfl⟩
            go_wp2_with fail
            refine (i1 _).mono ?_; rintro e w4 ⟨rfl, rfl⟩
            go_wp2
            go_ret
            exact ⟨rfl, hb⟩
end Go.Proofs.Ytfgfkiifekeeaaa
