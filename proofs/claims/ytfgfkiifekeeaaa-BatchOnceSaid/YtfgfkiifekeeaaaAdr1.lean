/- The reference of package addr: letter, name, find, Resource. -/
import Derived.Test.YtfgfkiifekeeaaaAdQ
import Derived.Test.YtfgfkiifekeeaaaRef02d
namespace Go.Proofs.Ytfgfkiifekeeaaa
open Go.RowKit Go.Shelf
set_option linter.unusedSimpArgs false
set_option linter.unusedVariables false

set_option maxRecDepth 100000 in
set_option maxHeartbeats 4000000 in
theorem ref09_find_any (s : ByteArray) (hs : s.size ≤ 1000000) (c : UInt8) (w : World) : Calls Try.prog 64 #[.string s, .int .u8 c.toNat] w fun e w' => e = .returned (.int .i64 (rFind s.data.toList c)) ∧ Below w.heap.size w w' := by
  obtain ⟨R, hR⟩ : ∃ R, R = rFind s.data.toList c := ⟨_, rfl⟩
  rw [← hR]
  replace hR := hide hR
  have hcb := c.toNat_lt
  go_enter Try.func64, Try.ntmps64
  go_wp2_with fail
  go_loopw [5] (fun i wr => ∃ k : Nat, k ≤ s.size ∧ i = .int .i64 k ∧ (c ∉ s.data.toList.take k) ∧ wr = w) (fun i _ => s.size - (intOf i).toNat)
  case atStart => exact ⟨0, by omega, rfl, by simp, rfl⟩
  case round =>
    obtain ⟨k, hk, rfl, hno, rfl⟩ := hrel
    replace hno := hide hno
    by_cases hlt : k < s.size
    · have hltI : (k : Int) < (s.size : Int) := by omega
      have hts := hide (take_snoc s k hlt)
      have hxb := (s[k]'hlt).toNat_lt
      by_cases h1 : s[k]'hlt = c
      · have h1I : (((s[k]'hlt).toNat : Int) == (c.toNat : Int)) = true := by rw [h1]; simp
        have hR2 := hide (show R = k by
          have e : s.data.toList = s.data.toList.take k ++ c :: s.data.toList.drop (k + 1) := by
            conv => lhs; rw [← List.take_append_drop (k + 1) s.data.toList, hts.out, h1]
            simp
          rw [hR.out, e, rFind_append _ _ _ hno.out, List.length_take, list_size]; omega)
        clear h1
        go_wp2_with fail
        go_ret
        exact ⟨by rw [hR2.out]; rfl, Below.refl _ _⟩
      · have h1I : (((s[k]'hlt).toNat : Int) == (c.toNat : Int)) = false := by
          rw [beq_eq_false_iff_ne]; intro e; exact h1 (u8_ext _ _ (by omega))
        replace h1 := hide h1
        go_wp2_with fail
        go_roundw
        case rel =>
          refine ⟨k + 1, by omega, by simp, ?_, by first | rfl | trivial⟩
          rw [hts.out]
          simp only [List.mem_append, List.mem_singleton, not_or]
          exact ⟨hno.out, fun e => h1.out e.symm⟩
        case measure => simp [intOf]; omega
    · obtain rfl : k = s.size := by omega
      have ha := hno.out
      rw [List.take_of_length_le (by rw [list_size]; exact Nat.le_refl _)] at ha
      have hR2 := hide (show R = s.size by rw [hR.out, rFind_none _ _ ha, list_size])
      clear ha
      go_wp2_with fail
      go_ret
      exact ⟨by rw [hR2.out]; rfl, Below.refl _ _⟩
set_option maxRecDepth 100000 in
set_option maxHeartbeats 4000000 in
theorem ref09_name_any (s : ByteArray) (hs : s.size ≤ 1000000) (w : World) : Calls Try.prog 77 #[.string s] w fun e w' => e = .returned (.bool (aName s.data.toList)) ∧ Below w.heap.size w w' := by
  have k0 := fun W => ref02_Plain_any s hs W
  obtain ⟨R, hR⟩ : ∃ R, R = aName s.data.toList := ⟨_, rfl⟩
  rw [← hR]
  rw [aName_eq] at hR
  generalize uPlain s.data.toList = p at *
  replace hR := hide hR
  go_enter Try.func77, Try.ntmps77
  go_wp2_with fail
  go_loopw [3] (fun i wr => ∃ k : Nat, k ≤ s.size ∧ i = .int .i64 k ∧ (s.data.toList.take k).all (fun b => !rBad b) = true ∧ wr = w) (fun i _ => s.size - (intOf i).toNat)
  case atStart => exact ⟨0, by omega, rfl, by simp, rfl⟩
  case round =>
    obtain ⟨k, hk, rfl, hno, rfl⟩ := hrel
    replace hno := hide hno
    by_cases hlt : k < s.size
    · have hltI : (k : Int) < (s.size : Int) := by omega
      have hts := hide (take_snoc s k hlt)
      have hxb := (s[k]'hlt).toNat_lt
      have hbad : rBad (s[k]'hlt) = true → R = false := fun h => by
        rw [hR.out]
        have : (s.data.toList.all fun b => !rBad b) = false := by
          rw [List.all_eq_false]
          refine ⟨s[k]'hlt, ?_, by simp [h]⟩
          rw [ByteArray.getElem_eq_getElem_data, ← Array.getElem_toList]
          exact List.getElem_mem _
        rw [this]; rfl
      replace hbad := hide hbad
      have hgood : rBad (s[k]'hlt) = false → (s.data.toList.take (k + 1)).all (fun b => !rBad b) = true := fun h => by
        rw [hts.out, List.all_append, hno.out]; simp [h]
      replace hgood := hide hgood
      have hdef := hide (show rBad (s[k]'hlt) = (decide ((s[k]'hlt).toNat = 32 ∨ (s[k]'hlt).toNat = 64 ∨ (s[k]'hlt).toNat = 47) || decide (65 ≤ (s[k]'hlt).toNat ∧ (s[k]'hlt).toNat ≤ 90)) from rfl)
      have hsp : (s[k]'hlt).toNat = 32 ∨ (s[k]'hlt).toNat = 64 ∨ (s[k]'hlt).toNat = 47 ∨ (65 ≤ (s[k]'hlt).toNat ∧ (s[k]'hlt).toNat ≤ 90) ∨ ((s[k]'hlt).toNat < 65 ∧ (s[k]'hlt).toNat ≠ 32 ∧ (s[k]'hlt).toNat ≠ 64 ∧ (s[k]'hlt).toNat ≠ 47) ∨ 90 < (s[k]'hlt).toNat := by omega
      rcases hsp with hsp | hsp | hsp | hsp | hsp | hsp
      · have i32 : (((s[k]'hlt).toNat : Int)) = 32 := by omega
        have hR2 := hide (hbad.out (by rw [hdef.out]; simp <;> omega))
        clear hsp
        go_wp2_with fail
        go_ret
        exact ⟨by rw [hR2.out]; rfl, Below.refl _ _⟩
      · have i64 : (((s[k]'hlt).toNat : Int)) = 64 := by omega
        have hR2 := hide (hbad.out (by rw [hdef.out]; simp <;> omega))
        clear hsp
        go_wp2_with fail
        go_ret
        exact ⟨by rw [hR2.out]; rfl, Below.refl _ _⟩
      · have i47 : (((s[k]'hlt).toNat : Int)) = 47 := by omega
        have hR2 := hide (hbad.out (by rw [hdef.out]; simp <;> omega))
        clear hsp
        go_wp2_with fail
        go_ret
        exact ⟨by rw [hR2.out]; rfl, Below.refl _ _⟩
      · have i32 : ((((s[k]'hlt).toNat : Int)) == 32) = false := by simp <;> omega
        have i64 : ((((s[k]'hlt).toNat : Int)) == 64) = false := by simp <;> omega
        have i47 : ((((s[k]'hlt).toNat : Int)) == 47) = false := by simp <;> omega
        have j1 : (65 : Int) ≤ ((s[k]'hlt).toNat : Int) := by omega
        have j2 : ((s[k]'hlt).toNat : Int) ≤ 90 := by omega
        have hR2 := hide (hbad.out (by rw [hdef.out]; simp <;> omega))
        clear hsp
        go_wp2_with fail
        go_ret
        exact ⟨by rw [hR2.out]; rfl, Below.refl _ _⟩
      · have i32 : ((((s[k]'hlt).toNat : Int)) == 32) = false := by simp <;> omega
        have i64 : ((((s[k]'hlt).toNat : Int)) == 64) = false := by simp <;> omega
        have i47 : ((((s[k]'hlt).toNat : Int)) == 47) = false := by simp <;> omega
        have j1 : ((s[k]'hlt).toNat : Int) < 65 := by omega
        have hg2 := hide (hgood.out (by rw [hdef.out]; simp <;> omega))
        clear hsp
        go_wp2_with fail
        go_roundw
        case rel => exact ⟨k + 1, by omega, by simp, hg2.out, by first | rfl | trivial⟩
        case measure => simp [intOf]; omega
      · have i32 : ((((s[k]'hlt).toNat : Int)) == 32) = false := by simp <;> omega
        have i64 : ((((s[k]'hlt).toNat : Int)) == 64) = false := by simp <;> omega
        have i47 : ((((s[k]'hlt).toNat : Int)) == 47) = false := by simp <;> omega
        have j1 : (65 : Int) ≤ ((s[k]'hlt).toNat : Int) := by omega
        have j2 : (90 : Int) < ((s[k]'hlt).toNat : Int) := by omega
        have hg2 := hide (hgood.out (by rw [hdef.out]; simp <;> omega))
        clear hsp
        go_wp2_with fail
        go_roundw
        case rel => exact ⟨k + 1, by omega, by simp, hg2.out, by first | rfl | trivial⟩
        case measure => simp [intOf]; omega
    · obtain rfl : k = s.size := by omega
      have ha := hno.out
      rw [List.take_of_length_le (by rw [list_size]; exact Nat.le_refl _)] at ha
      have hR2 := hide (show R = p by rw [hR.out, ha]; rfl)
      clear ha
      go_wp2_with fail
      refine (k0 _).mono ?_; rintro e w1 ⟨rfl, hb⟩
      go_wp2_with fail
      go_ret
      exact ⟨by rw [hR2.out]; rfl, hb⟩
end Go.Proofs.Ytfgfkiifekeeaaa
