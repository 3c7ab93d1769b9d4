/- The reference of package batch: callboyref23.Split, fine, place. -/
import Derived.Test.YtfgfkiifekeeaaaBa4
import Derived.Test.YtfgfkiifekeeaaaAdr6
namespace Go.Proofs.Ytfgfkiifekeeaaa
open Go.RowKit Go.Shelf
set_option linter.unusedSimpArgs false
set_option linter.unusedVariables false

theorem sSplit_ref (s : ByteArray) (k : Nat) (hk : k = rFind s.data.toList 32) : sSplit s.data.toList = if k = s.size then (([], []), 4) else if aIsBare (s.extract 0 k).data.toList = false then (([], []), 11) else
    if aRes (s.extract (k + 1) s.size).data.toList ≠ 0 then (([], []), aRes (s.extract (k + 1) s.size).data.toList) else (((s.extract 0 k).data.toList, (s.extract (k + 1) s.size).data.toList), 0) := by
  have hl := rFind_le s.data.toList 32
  unfold sSplit
  rw [cut_find s.data.toList 32, ← hk]
  dsimp only
  rw [take_list, rest_list]
  have c1 : decide (k < s.data.toList.length) = false ↔ k = s.size := by
    rw [list_size] at *
    rw [decide_eq_false_iff_not]
    subst hk
    omega
  simp only [c1]
set_option maxRecDepth 100000 in
set_option maxHeartbeats 4000000 in
theorem ref23_Split_any (s : ByteArray) (hs : s.size ≤ 1000000) (w : World) : Calls Try.prog 43 #[.string s] w fun e w' =>
    e = .returned (.tuple #[.string (strOf (sSplit s.data.toList).1.1), .string (strOf (sSplit s.data.toList).1.2), .int .i64 (sSplit s.data.toList).2]) ∧ Below w.heap.size w w' := by
  obtain ⟨R, hR⟩ : ∃ R, R = sSplit s.data.toList := ⟨_, rfl⟩
  rw [← hR]
  replace hR := hide hR
  go_enter Try.func43, Try.ntmps43
  go_wp2_with fail
  go_loopw [5] (fun i wr => ∃ k : Nat, k ≤ s.size ∧ i = .int .i64 k ∧ Hid ((32 : UInt8) ∉ s.data.toList.take k) ∧ wr = w) (fun i _ => s.size - (intOf i).toNat)
  case atStart => exact ⟨0, by omega, rfl, by simp [Hid], rfl⟩
  case round =>
    obtain ⟨k, hk, rfl, hno, rfl⟩ := hrel
    by_cases hlt : k < s.size
    · have hltI : (k : Int) < (s.size : Int) := by omega
      have hts := hide (take_snoc s k hlt)
      have hxb := (s[k]'hlt).toNat_lt
      by_cases h1 : s[k]'hlt = 32
      · have h1I : (((s[k]'hlt).toNat : Int) != 32) = false := by rw [h1]; rfl
        have h1J : (((s[k]'hlt).toNat : Int) == 32) = true := by rw [h1]; rfl
        have hK : k = rFind s.data.toList 32 := by
          have e : s.data.toList = s.data.toList.take k ++ 32 :: s.data.toList.drop (k + 1) := by
            conv => lhs; rw [← List.take_append_drop (k + 1) s.data.toList, hts.out, h1]
            simp
          rw [e, rFind_append _ _ _ hno.out, List.length_take, list_size]; omega
        have hP := hR.out.trans ((sSplit_ref s k hK).trans (if_neg (by omega)))
        have b1 := fun W => ref09_IsBare_any (s.extract 0 k) (by rw [ByteArray.size_extract]; omega) W
        have b2 := fun W => ref09_Resource_any (s.extract (k + 1) s.size) (by rw [ByteArray.size_extract]; omega) W
        replace hP := hide hP
        generalize hu : aIsBare (s.extract 0 k).data.toList = ib at *
        generalize aRes (s.extract (k + 1) s.size).data.toList = ar at *
        have hkz : ((k : Int) == (s.size : Int)) = false := by rw [beq_eq_false_iff_ne]; omega
        have hw1 : IntKind.i64.wrap ((k : Int) + 1) = (k : Int) + 1 := IntWalk.i64_in _ (by omega)
        have hw2 : (0 : Int) ≤ (k : Int) + 1 := by omega
        have hw3 : ((k : Int) + 1).toNat = k + 1 := by omega
        have hw4 : (k : Int) + 1 ≤ (s.size : Int) := by omega
        replace hK := hide hK
        clear hR hno hts h1 hu
        go_upto_region 6 with fail
        go_quiet (fail)
        go_wp2_with fail
        refine (b1 _).mono ?_; rintro e w2 ⟨rfl, hx⟩
        have hb : Below wr.heap.size wr w2 := (show Below wr.heap.size wr _ by (repeat (first | with_reducible exact Below.refl _ _ | with_reducible assumption | with_reducible refine Below.drew ?_ | with_reducible refine Below.drewN ?_ _ | with_reducible refine Below.alloc1 ?_ _ | with_reducible refine Below.setCell1 ?_ (by first | omega | (simp; done) | (simp; omega)) _ | with_reducible refine Below.step ?_ (by with_reducible assumption)))).step hx
        clear hx b1 hw1 hw2 hw3 hw4
        cases ib with
        | false =>
          replace hP := hide (hP.out.trans (if_pos rfl))
          go_wp2
          go_ret3
          exact ⟨by rw [hP.out]; rfl, hb⟩
        | true =>
          replace hP := hP.out.trans (if_neg (by decide))
          go_wp2_with fail
          refine (b2 _).mono ?_; rintro e w3 ⟨rfl, hx⟩
          replace hb := hb.step hx
          clear hx
          by_cases h0 : ar = 0
          · have e0 : (ar != 0) = false := by simpa using h0
            replace hP := hide (hP.trans (if_neg (fun h => h h0)))
            clear h0
            go_wp2
            go_ret3
            exact ⟨by rw [hP.out]; rfl, hb⟩
          · have e0 : (ar != 0) = true := by simpa using h0
            replace hP := hide (hP.trans (if_pos h0))
            clear h0
            go_wp2_with fail
            refine (b2 _).mono ?_; rintro e w4 ⟨rfl, hx⟩
            replace hb := hb.step hx
            clear hx
            go_wp2
            go_ret3
            exact ⟨by rw [hP.out]; rfl, hb⟩
      · have h1I : (((s[k]'hlt).toNat : Int) != 32) = true := by
          rw [bne_iff_ne]; intro e; exact h1 (u8_ext _ _ (by have : (32 : UInt8).toNat = 32 := rfl; omega))
        have h1J : (((s[k]'hlt).toNat : Int) == 32) = false := by
          rw [beq_eq_false_iff_ne]; intro e; exact h1 (u8_ext _ _ (by have : (32 : UInt8).toNat = 32 := rfl; omega))
        replace h1 := hide h1
        go_wp2_with fail
        go_roundw
        case rel =>
          refine ⟨k + 1, by omega, by simp, ?_, by first | rfl | trivial⟩
          unfold Hid
          rw [hts.out]
          simp only [List.mem_append, List.mem_singleton, not_or]
          exact ⟨hno.out, fun e => h1.out e.symm⟩
        case measure => simp [intOf]; omega
    · obtain rfl : k = s.size := by omega
      have ha := hno.out
      rw [List.take_of_length_le (by rw [list_size]; exact Nat.le_refl _)] at ha
      have hP := hide (hR.out.trans ((sSplit_ref s s.size (by rw [rFind_none _ _ ha, list_size])).trans (if_pos rfl)))
      clear ha
      go_wp2
      go_ret3
      exact ⟨by rw [hP.out]; rfl, Below.refl _ _⟩
set_option maxRecDepth 100000 in
theorem ref30_fine_any (x : Pb) (hx : Sm x) (w : World) : Calls Try.prog 31 #[pbV x] w fun e w' => e = .returned (.bool (bFine x)) ∧ Below w.heap.size w w' := by
  obtain ⟨y, z⟩ := x
  have k0 := fun W => ref23_Split_any y (by have := hx.1; dsimp only at this; omega) W
  have k1 := fun W => ref09_IsBare_any z (by have := hx.2; dsimp only at this; omega) W
  obtain ⟨R, hR⟩ : ∃ R, R = bFine ⟨y, z⟩ := ⟨_, rfl⟩
  rw [← hR]
  unfold bFine at hR
  dsimp only at hR
  generalize sSplit y.data.toList = S at *
  obtain ⟨⟨s1, s2⟩, s3⟩ := S
  dsimp only at k0 hR
  generalize aIsBare z.data.toList = ib at *
  clear hx
  go_enter Try.func31, Try.ntmps31
  go_wp2_with fail
  generalize hV : World.alloc w _ = w1
  have hb : Below w.heap.size w w1 := by subst hV; (repeat (first | with_reducible exact Below.refl _ _ | with_reducible assumption | with_reducible refine Below.drew ?_ | with_reducible refine Below.drewN ?_ _ | with_reducible refine Below.alloc1 ?_ _ | with_reducible refine Below.setCell1 ?_ (by first | omega | (simp; done) | (simp; omega)) _ | with_reducible refine Below.step ?_ (by with_reducible assumption)))
  have kv : Bk w1 w.heap.size 26 [.string y, .string z] := by subst hV; (repeat (first | with_reducible exact Bk.new' _ _ _ _ (by simp; done) | with_reducible assumption | with_reducible refine Bk.alloc ?_ _ | with_reducible refine Bk.drew ?_ | with_reducible refine Bk.drewN ?_ _ | with_reducible refine Bk.step ?_ (by with_reducible assumption) | with_reducible refine Bk.far ?_ (by first | omega | (simp; done) | (simp; omega)) _))
  clear hV
  refine (k0 _).mono ?_; rintro e w2 ⟨rfl, h2⟩
  replace hb := hb.step h2
  replace kv := kv.step h2
  clear h2 k0
  have kv_0 := kv.cell 0; have kv_f0 := kv.frozen 0; have kv_1 := kv.cell 1; have kv_f1 := kv.frozen 1; simp only [List.set_cons_zero, List.set_cons_succ, List.getElem?_cons_zero, List.getElem?_cons_succ] at kv_0 kv_1; have lt_kv := kv.lt
  by_cases h0 : s3 = 0
  · subst h0
    replace hR := hide hR
    go_wp2_with fail
    refine (k1 _).mono ?_; rintro e w3 ⟨rfl, h3⟩
    replace hb := hb.step h3
    clear h3
    go_wp2
    go_ret
    exact ⟨ret_bool (by rw [hR.out]; simp), hb⟩
  · have e0 : (s3 == 0) = false := by simpa using h0
    have hR' : R = false := by rw [hR, decide_eq_false h0]; rfl
    clear hR h0
    subst hR'
    go_wp2
    go_ret
    exact ⟨rfl, hb⟩
set_option maxRecDepth 100000 in
theorem rb_eq (x y : Pb) (b : Bool) (hb : b = decide (x = y)) : (∀ W, (binOp .eql 26 (pbV x) (pbV y)).run Try.prog W = .ok (.bool b) W) ∧ ∀ W, (binOp .neq 26 (pbV x) (pbV y)).run Try.prog W = .ok (.bool (!b)) W := by
  subst hb
  obtain ⟨x0, x1⟩ := x
  obtain ⟨y0, y1⟩ := y
  have hS : Try.prog.underlying 26 = some (.struct (Try.prog.fieldsOf 26)) := by kernel_rfl
  have hp : Try.prog.stoodInHeld 26 = false := by kernel_rfl
  have e0 := txt_beq x0 y0
  have e1 := txt_beq x1 y1
  constructor
  · intro W
    rw [run_eql_struct, show (10000 : Nat) = 9999 + 1 from rfl, run_equalIn_agg W 9999 26 _ _ hS hp]
    simp only [Program.fieldsOf, Try.underlying26]
    go_simp
    by_cases h0 : x0 = y0 <;> by_cases h1 : x1 = y1 <;> simp_all
  · intro W
    rw [run_neq_struct, show (10000 : Nat) = 9999 + 1 from rfl, run_equalIn_agg W 9999 26 _ _ hS hp]
    simp only [Program.fieldsOf, Try.underlying26]
    go_simp
    by_cases h0 : x0 = y0 <;> by_cases h1 : x1 = y1 <;> simp_all
set_option maxRecDepth 100000 in
theorem ref30_place_any (A : Option Addr) (c : Nat) (l : List Pb) (v : Pb) (w : World) (hl : l.length ≤ maxLen) (ha : Rd w w.heap.size A (pbs l)) :
    Calls Try.prog 32 #[.slice A l.length c, pbV v] w fun e w' => e = .returned (.int .i64 (idxI (fun x => decide (x = v)) l)) ∧ Below w.heap.size w w' := by
  unfold maxLen at hl
  go_enter Try.func32, Try.ntmps32
  go_wp2_with fail
  generalize hV : World.alloc w _ = w1
  have hb1 : Below w.heap.size w w1 := by subst hV; (repeat (first | with_reducible exact Below.refl _ _ | with_reducible assumption | with_reducible refine Below.drew ?_ | with_reducible refine Below.drewN ?_ _ | with_reducible refine Below.alloc1 ?_ _ | with_reducible refine Below.setCell1 ?_ (by first | omega | (simp; done) | (simp; omega)) _ | with_reducible refine Below.step ?_ (by with_reducible assumption)))
  have kv : Bk w1 w.heap.size 26 (pbC v) := by subst hV; (repeat (first | with_reducible exact Bk.new' _ _ _ _ (by simp; done) | with_reducible assumption | with_reducible refine Bk.alloc ?_ _ | with_reducible refine Bk.drew ?_ | with_reducible refine Bk.drewN ?_ _ | with_reducible refine Bk.step ?_ (by with_reducible assumption) | with_reducible refine Bk.far ?_ (by first | omega | (simp; done) | (simp; omega)) _))
  have ra := (ha.below hb1).more hb1.size
  clear hV
  go_loopw [5] (fun i wr => ∃ k : Nat, k ≤ l.length ∧ i = .int .i64 k ∧ Hid (∀ x ∈ l.take k, decide (x = v) = false) ∧ ∃ n, w1.drewN n = wr) (fun i _ => l.length - (intOf i).toNat)
  case atStart => exact ⟨0, Nat.zero_le _, rfl, by simp [Hid], 0, rfl⟩
  case round =>
    obtain ⟨k, hk, rfl, HT, n, rfl⟩ := hrel
    by_cases hlt : k < l.length
    · obtain ⟨ad, rfl, hadb, c1, c2⟩ := ra.pb hlt
      have kv_0 := kv.cell 0; have kv_f0 := kv.frozen 0; have kv_1 := kv.cell 1; have kv_f1 := kv.frozen 1; simp only [List.set_cons_zero, List.set_cons_succ, List.getElem?_cons_zero, List.getElem?_cons_succ] at kv_0 kv_1; have lt_kv := kv.lt
      by_cases hp : l[k] = v
      · have hE1 := (rb_eq l[k] v true (by simp [hp])).1
        have HP := hide hp
        clear hp
        go_wp2_with fail
        go_quiet (fail)
        go_wp2
        go_ret
        exact ⟨ret_int (idxI_at hlt HT.out (by simp [HP.out])).symm, by (repeat (first | with_reducible exact Below.refl _ _ | with_reducible assumption | with_reducible refine Below.drew ?_ | with_reducible refine Below.drewN ?_ _ | with_reducible refine Below.alloc1 ?_ _ | with_reducible refine Below.setCell1 ?_ (by first | omega | (simp; done) | (simp; omega)) _ | with_reducible refine Below.step ?_ (by with_reducible assumption)))⟩
      · have hE1 := (rb_eq l[k] v false (by simp [hp])).1
        have HP := hide hp
        clear hp
        go_wp2_with fail
        go_quiet (fail)
        go_wp2
        go_roundw
        case rel => exact ⟨k + 1, by omega, by go_num, none_take hlt HT.out (by simp [HP.out]), _, rfl⟩
        case measure => simp [intOf]; omega
    · go_wp2
      go_ret
      exact ⟨ret_int (idxI_none (by have := HT.out; rwa [List.take_of_length_le (by omega)] at this)).symm, by (repeat (first | with_reducible exact Below.refl _ _ | with_reducible assumption | with_reducible refine Below.drew ?_ | with_reducible refine Below.drewN ?_ _ | with_reducible refine Below.alloc1 ?_ _ | with_reducible refine Below.setCell1 ?_ (by first | omega | (simp; done) | (simp; omega)) _ | with_reducible refine Below.step ?_ (by with_reducible assumption)))⟩
end Go.Proofs.Ytfgfkiifekeeaaa
