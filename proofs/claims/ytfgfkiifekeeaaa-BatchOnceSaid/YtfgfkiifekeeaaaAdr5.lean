/- The reference of package addr: Parse. -/
import Derived.Test.YtfgfkiifekeeaaaAdr4
import Derived.Test.YtfgfkiifekeeaaaC0
namespace Go.Proofs.Ytfgfkiifekeeaaa
open Go.RowKit Go.Shelf
set_option linter.unusedSimpArgs false
set_option linter.unusedVariables false

theorem extract_list (s : ByteArray) (a b : Nat) : (s.extract a b).data.toList = (s.data.toList.drop a).take (b - a) := by
  rw [ByteArray.data_extract, Array.toList_extract, List.extract_eq_take_drop]
theorem take_list (s : ByteArray) (a : Nat) : (s.extract 0 a).data.toList = s.data.toList.take a := by rw [extract_list]; simp
/-- Parse in the reference's words -/
theorem aParse_ref (s fl : ByteArray) (sl at_ : Nat) (hsl : sl = rFind s.data.toList 47) (hfl : fl = lowS (s.extract 0 sl)) (hat : at_ = rFind fl.data.toList 64) :
    aParse s.data.toList = if at_ = fl.size ∨ sl + 1 = s.size then (([], [], []), 4) else
      if aCheck (fl.extract 0 at_).data.toList (fl.extract (at_ + 1) fl.size).data.toList (s.extract (sl + 1) s.size).data.toList ≠ 0 then
        (([], [], []), aCheck (fl.extract 0 at_).data.toList (fl.extract (at_ + 1) fl.size).data.toList (s.extract (sl + 1) s.size).data.toList)
      else (((fl.extract 0 at_).data.toList, (fl.extract (at_ + 1) fl.size).data.toList, (s.extract (sl + 1) s.size).data.toList), 0) := by
  have hl := rFind_le s.data.toList 47
  have ha := rFind_le fl.data.toList 64
  have hfl2 : fl.data.toList = (s.data.toList.take sl).map uLow := by
    rw [hfl]
    show (s.extract 0 sl).data.toList.map uLow = _
    rw [take_list]
  unfold aParse
  rw [cut_find s.data.toList 47, ← hsl]
  dsimp only
  rw [← hfl2, cut_find fl.data.toList 64, ← hat]
  dsimp only
  rw [take_list, rest_list, rest_list]
  have c1 : (decide (at_ < fl.data.toList.length) = false ∨ decide (sl < s.data.toList.length) = true ∧ s.data.toList.drop (sl + 1) = []) ↔ (at_ = fl.size ∨ sl + 1 = s.size) := by
    rw [list_size] at *
    rw [decide_eq_false_iff_not, decide_eq_true_eq, List.drop_eq_nil_iff, list_size]
    subst hsl hat
    omega
  simp only [c1]
set_option maxRecDepth 100000 in
set_option maxHeartbeats 4000000 in
theorem ref09_Parse_any (s : ByteArray) (hs : s.size ≤ 1000000) (w : World) : Calls Try.prog 57 #[.string s] w fun e w' =>
    e = .returned (.tuple #[aV (strOf (aParse s.data.toList).1.1) (strOf (aParse s.data.toList).1.2.1) (strOf (aParse s.data.toList).1.2.2), .int .i64 (aParse s.data.toList).2]) ∧ Below w.heap.size w w' := by
  obtain ⟨R, hR⟩ : ∃ R, R = aParse s.data.toList := ⟨_, rfl⟩
  rw [← hR]
  have c1 := fun W => ref09_find_any s hs 47 W
  obtain ⟨sl, hsl⟩ : ∃ sl, sl = rFind s.data.toList 47 := ⟨_, rfl⟩
  have hsl1 := rFind_le s.data.toList 47
  rw [← hsl] at c1 hsl1
  rw [list_size] at hsl1
  have lw := fun W => ref02_Low_any (s.extract 0 sl) (by rw [ByteArray.size_extract]; omega) W
  obtain ⟨fl, hfl⟩ : ∃ fl, fl = lowS (s.extract 0 sl) := ⟨_, rfl⟩
  have hfs : fl.size = sl := by
    rw [hfl, ← list_size]
    show ((s.extract 0 sl).data.toList.map uLow).length = sl
    rw [List.length_map, take_list, List.length_take, list_size]; omega
  rw [← hfl] at lw
  have c2 := fun W => ref09_find_any fl (by omega) 64 W
  obtain ⟨at_, hat⟩ : ∃ at_, at_ = rFind fl.data.toList 64 := ⟨_, rfl⟩
  have hat1 := rFind_le fl.data.toList 64
  rw [← hat] at c2 hat1
  rw [list_size] at hat1
  have hP := aParse_ref s fl sl at_ hsl hfl hat
  rw [← hR] at hP
  clear hR hfl hat hsl
  replace hP := hide hP
  rw [show (((47 : UInt8).toNat : Nat) : Int) = 47 from rfl] at c1
  rw [show (((64 : UInt8).toNat : Nat) : Int) = 64 from rfl] at c2
  have j1 : (sl : Int) ≤ (s.size : Int) := by omega
  have j2 : (at_ : Int) ≤ (fl.size : Int) := by omega
  have k0 := fun W => ref09_Check_any (fl.extract 0 at_) (fl.extract (at_ + 1) fl.size) (s.extract (sl + 1) s.size) (by rw [ByteArray.size_extract]; omega) (by rw [ByteArray.size_extract]; omega) (by rw [ByteArray.size_extract]; omega) W
  have j0 : fl.size ≤ 1000000 := by omega
  replace hfs := hide hfs
  unfold aV at *
  go_enter Try.func57, Try.ntmps57
  go_wp2_with fail
  generalize hV : World.alloc w _ = w1
  have hb : Below w.heap.size w w1 := by subst hV; (repeat (first | with_reducible exact Below.refl _ _ | with_reducible assumption | with_reducible refine Below.drew ?_ | with_reducible refine Below.drewN ?_ _ | with_reducible refine Below.alloc1 ?_ _ | with_reducible refine Below.setCell1 ?_ (by first | omega | (simp; done) | (simp; omega)) _ | with_reducible refine Below.step ?_ (by with_reducible assumption)))
  have q0 : Bk w1 w.heap.size 98 (aC ByteArray.empty ByteArray.empty ByteArray.empty) := by subst hV; exact Bk.new w _ (aC ByteArray.empty ByteArray.empty ByteArray.empty)
  clear hV
  refine (c1 _).mono ?_; rintro e w2 ⟨rfl, hb2⟩
  replace hb := hb.step hb2
  replace q0 := q0.step hb2
  clear hb2
  go_wp2_with fail
  refine (lw _).mono ?_; rintro e w3 ⟨rfl, hb2⟩
  replace hb := hb.step hb2
  replace q0 := q0.step hb2
  clear hb2
  go_wp2_with fail
  refine (c2 _).mono ?_; rintro e w4 ⟨rfl, hb2⟩
  replace hb := hb.step hb2
  replace q0 := q0.step hb2
  clear hb2 c1 c2 lw
  by_cases e1 : at_ = fl.size
  · have e1I : ((at_ : Int) == (fl.size : Int)) = true := by rw [beq_iff_eq]; omega
    have hR2 := hP.out.trans (if_pos (.inl e1))
    clear hP k0 e1
    go_wp2_with (first | (refine wpList_store_row rfl 98 _ _ rfl _ (aC ByteArray.empty ByteArray.empty ByteArray.empty).toArray rfl rfl _ _ q0 (by kernel_rfl) (by kernel_rfl) (by kernel_rfl) ?_))
    have r0 := q0.srow (aC ByteArray.empty ByteArray.empty ByteArray.empty)
    have hbr := srow_below hb (Nat.le_refl w.heap.size) (aC ByteArray.empty ByteArray.empty ByteArray.empty).toArray
    exact bodyPost_ret (v := .tuple #[.agg (aC ByteArray.empty ByteArray.empty ByteArray.empty).toArray, .int .i64 4]) (results_row_val rfl _ _ _ _ _ _ _ rfl rfl r0 Try.underlying98 rfl (by kernel_rfl)) rfl ⟨by rw [hR2]; rfl, hbr⟩
  have e1I : ((at_ : Int) == (fl.size : Int)) = false := by rw [beq_eq_false_iff_ne]; omega
  by_cases e2 : sl + 1 = s.size
  · have e2I : ((sl : Int) + 1 == (s.size : Int)) = true := by rw [beq_iff_eq]; omega
    have hR2 := hP.out.trans (if_pos (.inr e2))
    clear hP k0 e1 e2
    go_wp2_with (first | (refine wpList_store_row rfl 98 _ _ rfl _ (aC ByteArray.empty ByteArray.empty ByteArray.empty).toArray rfl rfl _ _ q0 (by kernel_rfl) (by kernel_rfl) (by kernel_rfl) ?_))
    have r0 := q0.srow (aC ByteArray.empty ByteArray.empty ByteArray.empty)
    have hbr := srow_below hb (Nat.le_refl w.heap.size) (aC ByteArray.empty ByteArray.empty ByteArray.empty).toArray
    exact bodyPost_ret (v := .tuple #[.agg (aC ByteArray.empty ByteArray.empty ByteArray.empty).toArray, .int .i64 4]) (results_row_val rfl _ _ _ _ _ _ _ rfl rfl r0 Try.underlying98 rfl (by kernel_rfl)) rfl ⟨by rw [hR2]; rfl, hbr⟩
  have e2I : ((sl : Int) + 1 == (s.size : Int)) = false := by rw [beq_eq_false_iff_ne]; omega
  have hR2 := hide (hP.out.trans (if_neg (by rintro (h | h) <;> contradiction)))
  have j3 : (at_ : Int) + 1 ≤ (fl.size : Int) := by omega
  clear hP e1 e2
  go_wp2_with fail
  refine wp_region_mt 9 [(8, NewBk w4.heap.size 98 (aC ByteArray.empty ByteArray.empty ByteArray.empty))] (by kernel_rfl) (by kernel_rfl) (by kernel_rfl) (by kernel_rfl) (sts_cons (sts_newBk _ _ _) sts_nil) (fun kq => ?_); (try dsimp only [List.append, List.take])
  (repeat (refine wpM_via (by kernel_rfl) ?_; go_big_quiet_step (fail); refine wpQuiet_nil ?_))
  (refine wpM_spec _ (NewBk w4.heap.size 98 (aC ByteArray.empty ByteArray.empty ByteArray.empty)) (by kernel_rfl) (by kernel_rfl) rfl (later_some _) ?_ ?_; (focus (intro x hx hk; obtain ⟨px, rfl⟩ := hx; go_simp; (first | with_reducible refine mUpon_enter ?_ | with_reducible refine mUpon_value ?_); exact newBk_new (by simp [Go.Sort.grow]) rfl (by simp [Go.Sort.grow, redrawn]))); intro v hv K hK; obtain ⟨g, rfl, hg⟩ := hv; go_big_quiet_op; refine hK _ ?_; clear hK K)
  refine wpM_nil ?_; intro wq hwq hfq; have hbq := below_of_class hwq; clear hwq kq; (try dsimp only [List.drop])
  have kg : Bk wq g 98 [.string ⟨#[]⟩, .string ⟨#[]⟩, .string ⟨#[]⟩] := newBk_of (base := w4.heap.size) hfq.1
  have hg0 : w.heap.size < g := Nat.lt_of_lt_of_le q0.lt hg
  clear hfq
  replace hb := hb.step hbq
  replace q0 := q0.step hbq
  clear hbq
  have kg_0 := kg.cell 0; have kg_f0 := kg.frozen 0; have kg_1 := kg.cell 1; have kg_f1 := kg.frozen 1; have kg_2 := kg.cell 2; have kg_f2 := kg.frozen 2; simp only [List.set_cons_zero, List.set_cons_succ, List.getElem?_cons_zero, List.getElem?_cons_succ] at kg_0 kg_1 kg_2; have lt_kg := kg.lt
  by_cases e3 : sl < s.size
  · have e3I : (sl : Int) < (s.size : Int) := by omega
    have e4I : (sl : Int) + 1 ≤ (s.size : Int) := by omega
    clear e3
    go_upto_region 9 with fail
    generalize hV : World.setCell (World.setCell (World.setCell (World.setCell wq _ _) _ _) _ _) _ _ = w5
    have hb5 : Below wq.heap.size wq w5 ∨ True := .inr trivial
    have kz : Bk w5 g 98 (aC (fl.extract 0 at_) (fl.extract (at_ + 1) fl.size) (s.extract (sl + 1) s.size)) := by subst hV; exact (bk_set3 _ _ _ kg).set_ 2 _
    have q5 : Bk w5 w.heap.size 98 (aC ByteArray.empty ByteArray.empty ByteArray.empty) := by
      subst hV
      exact ((((q0.far (by dsimp only; omega) _).far (by dsimp only; omega) _).far (by dsimp only; omega) _).far (by dsimp only; omega) _)
    have hb6 : Below w.heap.size w w5 := by
      subst hV
      exact ((((hb.setCell (by dsimp only; omega) _).setCell (by dsimp only; omega) _).setCell (by dsimp only; omega) _).setCell (by dsimp only; omega) _)
    (try clear kg_0 kg_f0 kg_1 kg_f1 kg_2 kg_f2 lt_kg)
    clear hV hb5 kg q0 hb
    generalize hc : aCheck (fl.extract 0 at_).data.toList (fl.extract (at_ + 1) fl.size).data.toList (s.extract (sl + 1) s.size).data.toList = c at *
    clear hc
    by_cases h0 : c = 0
    · subst h0
      replace hR2 := hR2.out.trans (if_neg (by simp))
      go_wp2_with (first | (refine wpList_load_row rfl 98 _ rfl _ rfl _ _ (0, 0) _ kz Try.underlying98 rfl (by kernel_rfl) ?_))
      refine (k0 _).mono ?_; rintro e w6 ⟨rfl, hb7⟩
      replace hb6 := hb6.step hb7
      replace q5 := q5.step hb7
      replace kz := kz.step hb7
      clear hb7
      go_wp2_with (first | (refine wpList_load_row rfl 98 _ rfl _ rfl _ _ (0, 0) _ kz Try.underlying98 rfl (by kernel_rfl) ?_) | (refine wpList_store_row rfl 98 _ _ rfl _ (aC (fl.extract 0 at_) (fl.extract (at_ + 1) fl.size) (s.extract (sl + 1) s.size)).toArray rfl rfl _ _ q5 (by kernel_rfl) (by kernel_rfl) (by kernel_rfl) ?_))
      have r0 := q5.srow (aC (fl.extract 0 at_) (fl.extract (at_ + 1) fl.size) (s.extract (sl + 1) s.size))
      have hbr := srow_below hb6 (Nat.le_refl w.heap.size) (aC (fl.extract 0 at_) (fl.extract (at_ + 1) fl.size) (s.extract (sl + 1) s.size)).toArray
      exact bodyPost_ret (v := .tuple #[.agg (aC (fl.extract 0 at_) (fl.extract (at_ + 1) fl.size) (s.extract (sl + 1) s.size)).toArray, .int .i64 0]) (results_row_val rfl _ _ _ _ _ _ _ rfl rfl r0 Try.underlying98 rfl (by kernel_rfl)) rfl ⟨by rw [hR2]; rfl, hbr⟩
    · have h0B : (c != 0) = true := by rw [bne_iff_ne]; exact h0
      replace hR2 := hR2.out.trans (if_pos h0)
      clear h0
      go_wp2_with (first | (refine wpList_load_row rfl 98 _ rfl _ rfl _ _ (0, 0) _ kz Try.underlying98 rfl (by kernel_rfl) ?_))
      refine (k0 _).mono ?_; rintro e w6 ⟨rfl, hb7⟩
      replace hb6 := hb6.step hb7
      replace q5 := q5.step hb7
      replace kz := kz.step hb7
      clear hb7
      go_wp2_with (first | (refine wpList_load_row rfl 98 _ rfl _ rfl _ _ (0, 0) _ kz Try.underlying98 rfl (by kernel_rfl) ?_))
      refine (k0 _).mono ?_; rintro e w7 ⟨rfl, hb7⟩
      replace hb6 := hb6.step hb7
      replace q5 := q5.step hb7
      clear hb7
      go_wp2_with (first | (refine wpList_store_row rfl 98 _ _ rfl _ (aC ByteArray.empty ByteArray.empty ByteArray.empty).toArray rfl rfl _ _ q5 (by kernel_rfl) (by kernel_rfl) (by kernel_rfl) ?_))
      have r0 := q5.srow (aC ByteArray.empty ByteArray.empty ByteArray.empty)
      have hbr := srow_below hb6 (Nat.le_refl w.heap.size) (aC ByteArray.empty ByteArray.empty ByteArray.empty).toArray
      exact bodyPost_ret (v := .tuple #[.agg (aC ByteArray.empty ByteArray.empty ByteArray.empty).toArray, .int .i64 c]) (results_row_val rfl _ _ _ _ _ _ _ rfl rfl r0 Try.underlying98 rfl (by kernel_rfl)) rfl ⟨by rw [hR2]; rfl, hbr⟩
  · have e3I : ¬ (sl : Int) < (s.size : Int) := by omega
    have hre : s.extract (sl + 1) s.size = ⟨#[]⟩ := by
      apply ba_ext
      rw [rest_list, List.drop_eq_nil_iff.2 (by rw [list_size]; omega)]
    clear e3
    go_upto_region 9 with fail
    generalize hV : World.setCell (World.setCell (World.setCell wq _ _) _ _) _ _ = w5
    have hb5 : Below wq.heap.size wq w5 ∨ True := .inr trivial
    have kz : Bk w5 g 98 (aC (fl.extract 0 at_) (fl.extract (at_ + 1) fl.size) (s.extract (sl + 1) s.size)) := by subst hV; exact (by unfold aC; rw [hre]; exact bk_set3 _ _ _ kg)
    have q5 : Bk w5 w.heap.size 98 (aC ByteArray.empty ByteArray.empty ByteArray.empty) := by
      subst hV
      exact (((q0.far (by dsimp only; omega) _).far (by dsimp only; omega) _).far (by dsimp only; omega) _)
    have hb6 : Below w.heap.size w w5 := by
      subst hV
      exact (((hb.setCell (by dsimp only; omega) _).setCell (by dsimp only; omega) _).setCell (by dsimp only; omega) _)
    (try clear kg_0 kg_f0 kg_1 kg_f1 kg_2 kg_f2 lt_kg)
    clear hV hb5 kg q0 hb hre
    generalize hc : aCheck (fl.extract 0 at_).data.toList (fl.extract (at_ + 1) fl.size).data.toList (s.extract (sl + 1) s.size).data.toList = c at *
    clear hc
    by_cases h0 : c = 0
    · subst h0
      replace hR2 := hR2.out.trans (if_neg (by simp))
      go_wp2_with (first | (refine wpList_load_row rfl 98 _ rfl _ rfl _ _ (0, 0) _ kz Try.underlying98 rfl (by kernel_rfl) ?_))
      refine (k0 _).mono ?_; rintro e w6 ⟨rfl, hb7⟩
      replace hb6 := hb6.step hb7
      replace q5 := q5.step hb7
      replace kz := kz.step hb7
      clear hb7
      go_wp2_with (first | (refine wpList_load_row rfl 98 _ rfl _ rfl _ _ (0, 0) _ kz Try.underlying98 rfl (by kernel_rfl) ?_) | (refine wpList_store_row rfl 98 _ _ rfl _ (aC (fl.extract 0 at_) (fl.extract (at_ + 1) fl.size) (s.extract (sl + 1) s.size)).toArray rfl rfl _ _ q5 (by kernel_rfl) (by kernel_rfl) (by kernel_rfl) ?_))
      have r0 := q5.srow (aC (fl.extract 0 at_) (fl.extract (at_ + 1) fl.size) (s.extract (sl + 1) s.size))
      have hbr := srow_below hb6 (Nat.le_refl w.heap.size) (aC (fl.extract 0 at_) (fl.extract (at_ + 1) fl.size) (s.extract (sl + 1) s.size)).toArray
      exact bodyPost_ret (v := .tuple #[.agg (aC (fl.extract 0 at_) (fl.extract (at_ + 1) fl.size) (s.extract (sl + 1) s.size)).toArray, .int .i64 0]) (results_row_val rfl _ _ _ _ _ _ _ rfl rfl r0 Try.underlying98 rfl (by kernel_rfl)) rfl ⟨by rw [hR2]; rfl, hbr⟩
    · have h0B : (c != 0) = true := by rw [bne_iff_ne]; exact h0
      replace hR2 := hR2.out.trans (if_pos h0)
      clear h0
      go_wp2_with (first | (refine wpList_load_row rfl 98 _ rfl _ rfl _ _ (0, 0) _ kz Try.underlying98 rfl (by kernel_rfl) ?_))
      refine (k0 _).mono ?_; rintro e w6 ⟨rfl, hb7⟩
      replace hb6 := hb6.step hb7
      replace q5 := q5.step hb7
      replace kz := kz.step hb7
      clear hb7
      go_wp2_with (first | (refine wpList_load_row rfl 98 _ rfl _ rfl _ _ (0, 0) _ kz Try.underlying98 rfl (by kernel_rfl) ?_))
      refine (k0 _).mono ?_; rintro e w7 ⟨rfl, hb7⟩
      replace hb6 := hb6.step hb7
      replace q5 := q5.step hb7
      clear hb7
      go_wp2_with (first | (refine wpList_store_row rfl 98 _ _ rfl _ (aC ByteArray.empty ByteArray.empty ByteArray.empty).toArray rfl rfl _ _ q5 (by kernel_rfl) (by kernel_rfl) (by kernel_rfl) ?_))
      have r0 := q5.srow (aC ByteArray.empty ByteArray.empty ByteArray.empty)
      have hbr := srow_below hb6 (Nat.le_refl w.heap.size) (aC ByteArray.empty ByteArray.empty ByteArray.empty).toArray
      exact bodyPost_ret (v := .tuple #[.agg (aC ByteArray.empty ByteArray.empty ByteArray.empty).toArray, .int .i64 c]) (results_row_val rfl _ _ _ _ _ _ _ rfl rfl r0 Try.underlying98 rfl (by kernel_rfl)) rfl ⟨by rw [hR2]; rfl, hbr⟩
end Go.Proofs.Ytfgfkiifekeeaaa
