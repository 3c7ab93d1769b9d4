/- The document's answers of layer 2: All, Check, Plain, Of. -/
import Derived.Test.YtfgfkiifekeeaaaRef02c
namespace Go.Proofs.Ytfgfkiifekeeaaa
open Go.RowKit Go.Shelf
set_option linter.unusedSimpArgs false
set_option linter.unusedVariables false

set_option maxRecDepth 1000000 in
set_option maxHeartbeats 4000000 in
theorem ref02_All_any (s : ByteArray) (hs : s.size ≤ 1000000) (w : World) : Calls Try.prog 76 #[.string s] w fun e w' =>
    ∃ v, e = .returned (.tuple #[v, .int .i64 (if uBad s.data.toList then 11 else 0)]) ∧ w'.ownsRow w.heap.size 3 1 v (uAll s.data.toList).length (iCells (uAll s.data.toList)) ∧ Below w.heap.size w w' := by
  obtain ⟨R, hR⟩ : ∃ R : Int, R = if uBad s.data.toList then 11 else 0 := ⟨_, rfl⟩
  rw [← hR]
  replace hR := hide hR
  obtain ⟨L, hL⟩ : ∃ L, L = uAll s.data.toList := ⟨_, rfl⟩
  rw [← hL]
  replace hL := hide hL
  obtain ⟨i0, hi, hz0, hz1, hz2⟩ := info_parts info_int
  go_enter Try.func76, Try.ntmps76
  go_wp2_with fail
  go_loopw [4, 5] (fun o a wr => ∃ (k : Nat) (pre : List Int), k ≤ s.size ∧ a = .int .i64 k ∧ wr.ownsRow w.heap.size 3 1 o pre.length (iCells pre) ∧ pre.length ≤ k ∧
    pre ++ (uScan (s.data.toList.drop k)).map Prod.fst = (uScan s.data.toList).map Prod.fst ∧ uBad (s.data.toList.drop k) = uBad s.data.toList ∧ Below w.heap.size w wr) (fun _ a _ => s.size - (intOf a).toNat)
  case atStart => exact ⟨0, [], by omega, rfl, World.ownsRow_nil .., by simp, rfl, rfl, Below.refl _ _⟩
  case round =>
    obtain ⟨k, pre, hk, rfl, hown, hpl, e1, e2, hb⟩ := hrel
    by_cases hlt : k < s.size
    · have hltI : (k : Int) < (s.size : Int) := by omega
      have hne := drop_ne s k hlt
      have hsc := uScan_cons _ hne
      have hbd := uBad_cons _ hne
      have hz := uNext_size (s.data.toList.drop k)
      rw [List.length_drop, list_size] at hz
      have hnx := fun W => ref02_Next_any (s.extract k s.size) (by rw [rest_size]; unfold maxLen; omega) W
      rw [rest_list] at hnx
      have h1 := hz.2.1 hne
      rw [List.drop_drop] at hsc hbd
      rw [hsc] at e1
      rw [e2] at hbd
      have E1 := hide e1
      have E2 := hide hbd
      clear e1 e2 hsc hbd hne
      generalize uNext (s.data.toList.drop k) = p at *
      obtain ⟨v, m⟩ := p
      replace E1 := hide (show pre ++ v :: (uScan (s.data.toList.drop (k + m))).map Prod.fst = (uScan s.data.toList).map Prod.fst from E1)
      replace E2 := hide (show uBad s.data.toList = (v == -1 || uBad (s.data.toList.drop (k + m))) from E2)
      (try dsimp only at *)
      obtain ⟨A, c, rfl⟩ := own_form hown
      have hpc : pre.length ≤ 1000000 := by omega
      by_cases hv : v = -1
      · subst hv
        have hL2 := hide (show L = [] by rw [hL.out, uAll, if_pos (by rw [E2.out]; rfl)])
        have hR2 := hide (show R = 11 by rw [hR.out, if_pos (by rw [E2.out]; rfl)])
        clear hL hR
        go_wp2_with fail
        refine (hnx _).mono ?_; rintro e w2 ⟨rfl, hb2⟩
        go_wp2_with fail
        go_ret2
        exact ⟨_, by rw [hR2.out]; rfl, by rw [hL2.out]; exact World.ownsRow_nil .., hb.step hb2⟩
      · have hv0 : 0 ≤ v := by omega
        have h1I : (1 : Int) ≤ (m : Int) := by omega
        have hvf := hide (show (v == -1) = false by simpa using hv)
        go_wp2_with fail
        refine (hnx _).mono ?_; rintro e w2 ⟨rfl, hb2⟩
        replace hb := hb.step hb2
        replace hown := own_below hown hb2 (Nat.le_refl _)
        clear hb2
        go_wp2_with (at_builtin; refine wpList_app rfl (.tmp 21) (.tmp 23) 118 rfl w.heap.size 3 i0 _ 1 8 Try.underlying118 hi hz0 hz1 hz2 rfl (by omega) A pre.length c (iCells pre) rfl (hown.alloc _) ⟨w2.heap.size, 0, none⟩ 1 1 [.int .i64 v] rfl rfl (news_at (cs := [_])) (by simp [Value.oneCell']) (by unfold maxLen; omega) (by omega) (by have := hb.size; simp; omega) (by omega) ?_; intro g cap w3 hown3 hb3)
        go_roundw
        case rel =>
          refine ⟨k + m, pre ++ [v], by omega, by simp <;> omega, ?_, by simp <;> omega, ?_, ?_, hb.trans (((Below.refl w.heap.size w2).alloc hb.size _).trans hb3)⟩
          · rw [List.length_append]; unfold iCells; rw [List.map_append]; exact hown3
          · rw [List.append_assoc]; exact E1.out
          · rw [E2.out, hvf.out]; rfl
        case measure => simp [intOf]; omega
    · obtain rfl : k = s.size := by omega
      have hdn : s.data.toList.drop s.size = [] := List.drop_eq_nil_of_le (by rw [list_size]; exact Nat.le_refl _)
      rw [hdn, uScan_nil, List.map_nil, List.append_nil] at e1
      rw [hdn, uBad_nil] at e2
      have hL2 := hide (show L = pre by rw [hL.out, uAll, ← e2, if_neg (by simp), e1])
      have hR2 := hide (show R = 0 by rw [hR.out, ← e2]; rfl)
      clear e1 e2 hL hR hdn
      go_wp2_with fail
      go_ret2
      exact ⟨_, by rw [hR2.out]; rfl, by rw [hL2.out]; exact hown, hb⟩
theorem ref02_Check_any (s : ByteArray) (hs : s.size ≤ 1000000) (w : World) : Calls Try.prog 63 #[.string s] w fun e w' => e = .returned (.int .i64 (if uBad s.data.toList then 11 else 0)) ∧ Below w.heap.size w w' := by
  have hall := fun W => ref02_All_any s hs W
  obtain ⟨R, hR⟩ : ∃ R : Int, R = if uBad s.data.toList then 11 else 0 := ⟨_, rfl⟩
  rw [← hR] at hall ⊢
  clear hR
  go_enter Try.func63, Try.ntmps63
  go_wp2_with fail
  refine (hall _).mono ?_; rintro e w2 ⟨v, rfl, _, hb2⟩
  go_wp2_with fail
  go_ret
  exact ⟨rfl, hb2⟩
set_option maxRecDepth 1000000 in
set_option maxHeartbeats 4000000 in
theorem ref02_Plain_any (s : ByteArray) (hs : s.size ≤ 1000000) (w : World) : Calls Try.prog 56 #[.string s] w fun e w' => e = .returned (.bool (uPlain s.data.toList)) ∧ Below w.heap.size w w' := by
  have hchk := fun W => ref02_Check_any s hs W
  have hpe := uPlain_eq s.data.toList
  have hbad : ((if uBad s.data.toList then (11 : Int) else 0) == 0) = !uBad s.data.toList := by cases uBad s.data.toList <;> rfl
  obtain ⟨C, hC⟩ : ∃ C : Int, C = if uBad s.data.toList then 11 else 0 := ⟨_, rfl⟩
  rw [← hC] at hchk hbad
  obtain ⟨R, hR⟩ : ∃ R, R = uPlain s.data.toList := ⟨_, rfl⟩
  rw [← hR] at hpe ⊢
  replace hpe := hide hpe
  replace hbad := hide hbad
  clear hC hR
  go_enter Try.func56, Try.ntmps56
  go_wp2_with fail
  go_loopw [3] (fun i wr => ∃ k : Nat, k ≤ s.size ∧ i = .int .i64 k ∧ (s.data.toList.take k).any bCtl = false ∧ wr = w) (fun i _ => s.size - (intOf i).toNat)
  case atStart => exact ⟨0, by omega, rfl, rfl, rfl⟩
  case round =>
    obtain ⟨k, hk, rfl, hany, rfl⟩ := hrel
    replace hany := hide hany
    by_cases hlt : k < s.size
    · have hltI : (k : Int) < (s.size : Int) := by omega
      have hts := hide (take_snoc s k hlt)
      have hmem : bCtl (s[k]'hlt) = true → s.data.toList.any bCtl = true := fun h => by
        rw [List.any_eq_true]
        refine ⟨s[k]'hlt, ?_, h⟩
        rw [ByteArray.getElem_eq_getElem_data, ← Array.getElem_toList]
        exact List.getElem_mem _
      replace hmem := hide hmem
      have hbc := hide (show bCtl (s[k]'hlt) = (decide ((s[k]'hlt).toNat < 32) || decide ((s[k]'hlt).toNat = 127)) from rfl)
      have hxb := (s[k]'hlt).toNat_lt
      by_cases h1 : (s[k]'hlt).toNat < 32
      · have h1I : ((s[k]'hlt).toNat : Int) < 32 := by omega
        have hR2 := hide (show R = false by rw [hpe.out, hmem.out (by rw [hbc.out, decide_eq_true h1]; rfl)]; rfl)
        go_wp2_with fail
        go_ret
        exact ⟨by rw [hR2.out]; rfl, Below.refl _ _⟩
      · have h1I : (32 : Int) ≤ ((s[k]'hlt).toNat : Int) := by omega
        by_cases h2 : (s[k]'hlt).toNat = 127
        · have h2I : ((s[k]'hlt).toNat : Int) = 127 := by omega
          have hR2 := hide (show R = false by rw [hpe.out, hmem.out (by rw [hbc.out, decide_eq_true h2, Bool.or_true])]; rfl)
          go_wp2_with fail
          go_ret
          exact ⟨by rw [hR2.out]; rfl, Below.refl _ _⟩
        · have h2I : ((((s[k]'hlt).toNat : Int)) == 127) = false := by simp <;> omega
          have hbf := hide (show bCtl (s[k]'hlt) = false by rw [hbc.out, decide_eq_false h1, decide_eq_false h2]; rfl)
          go_wp2_with fail
          go_roundw
          case rel =>
            refine ⟨k + 1, by omega, by simp, ?_, by first | rfl | trivial⟩
            rw [hts.out, List.any_append, hany.out]
            simp [hbf.out]
          case measure => simp [intOf]; omega
    · obtain rfl : k = s.size := by omega
      have ha := hany.out
      rw [List.take_of_length_le (by rw [list_size]; exact Nat.le_refl _)] at ha
      have hR2 := hide (show R = (C == 0) by rw [hpe.out, ha, hbad.out]; rfl)
      clear ha
      go_wp2_with fail
      refine (hchk _).mono ?_; rintro e w2 ⟨rfl, hb2⟩
      go_wp2_with fail
      go_ret
      exact ⟨by rw [hR2.out]; rfl, hb2⟩
end Go.Proofs.Ytfgfkiifekeeaaa
