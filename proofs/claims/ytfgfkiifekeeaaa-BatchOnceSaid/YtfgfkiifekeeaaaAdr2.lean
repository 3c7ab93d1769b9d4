/- The reference of package addr: letter, host, Resource, Check. -/
import Derived.Test.YtfgfkiifekeeaaaAdr1
namespace Go.Proofs.Ytfgfkiifekeeaaa
open Go.RowKit Go.Shelf
set_option linter.unusedSimpArgs false
set_option linter.unusedVariables false

set_option maxRecDepth 100000 in
theorem ref09_letter_any (b : UInt8) (w : World) : Calls Try.prog 88 #[.int .u8 (b.toNat : Int)] w fun e w' => e = .returned (.bool (aLet b)) ∧ w = w' := by
  have hlt := b.toNat_lt
  unfold aLet
  generalize b.toNat = x at *
  by_cases h1 : 97 ≤ x <;> by_cases h2 : x ≤ 122 <;> by_cases h3 : 48 ≤ x <;> by_cases h4 : x ≤ 57 <;>
    first | omega | (
      first | (have j1 : (97 : Int) ≤ (x : Int) := by omega) | (have j1 : (x : Int) < 97 := by omega)
      first | (have j2 : (x : Int) ≤ 122 := by omega) | (have j2 : (122 : Int) < (x : Int) := by omega)
      first | (have j3 : (48 : Int) ≤ (x : Int) := by omega) | (have j3 : (x : Int) < 48 := by omega)
      first | (have j4 : (x : Int) ≤ 57 := by omega) | (have j4 : (57 : Int) < (x : Int) := by omega)
      go_enter Try.func88, Try.ntmps88; go_wp2; go_ret; exact ⟨ret_bool (by first | (rw [eq_comm, decide_eq_true_eq]; omega) | (rw [eq_comm, decide_eq_false_iff_not]; omega) | (simp <;> omega) | (simp [h1, h2, h3, h4] <;> omega)), rfl⟩)
theorem getD_s (s : ByteArray) (k : Nat) (h : k < s.size) : s.data.toList.getD k 0 = s[k]'h := getD_at s k h
theorem rHB_at (s : ByteArray) (k : Nat) (h : k < s.size) : rHB s.data.toList k =
    ((!aLet (s[k]'h) && ((decide (k = 0) || decide (k + 1 = s.size)) || (decide ((s[k]'h).toNat ≠ 45) && decide ((s[k]'h).toNat ≠ 46)))) || (decide (0 < k) && decide ((s[k]'h).toNat = 46) && decide ((s[k - 1]'(by omega)).toNat = 46))) := by
  unfold rHB
  rw [getD_s s k h, getD_s s (k - 1) (by omega), list_size]
set_option maxRecDepth 100000 in
set_option maxHeartbeats 4000000 in
theorem ref09_host_any (s : ByteArray) (hs : s.size ≤ 1000000) (w : World) : Calls Try.prog 78 #[.string s] w fun e w' => e = .returned (.bool (rHost s.data.toList)) ∧ Below w.heap.size w w' := by
  obtain ⟨R, hR⟩ : ∃ R, R = rHost s.data.toList := ⟨_, rfl⟩
  rw [← hR]
  unfold rHost at hR
  rw [list_size] at hR
  replace hR := hide hR
  go_enter Try.func78, Try.ntmps78
  go_wp2_with fail
  go_loopw [3] (fun i wr => ∃ k : Nat, k ≤ s.size ∧ i = .int .i64 k ∧ (∀ j, j < k → rHB s.data.toList j = false) ∧ wr = w) (fun i _ => s.size - (intOf i).toNat)
  case atStart => exact ⟨0, by omega, rfl, by omega, rfl⟩
  case round =>
    obtain ⟨k, hk, rfl, hno, rfl⟩ := hrel
    replace hno := hide hno
    by_cases hlt : k < s.size
    · have hltI : (k : Int) < (s.size : Int) := by omega
      have hxb := (s[k]'hlt).toNat_lt
      have hbad : rHB s.data.toList k = true → R = false := fun h => by
        rw [hR.out, decide_eq_false]
        intro hh
        rw [hh k hlt] at h
        cases h
      replace hbad := hide hbad
      have hgood : rHB s.data.toList k = false → ∀ j, j < k + 1 → rHB s.data.toList j = false := fun h j hj => by
        by_cases e : j = k
        · rw [e]; exact h
        · exact hno.out j (by omega)
      replace hgood := hide hgood
      have hdef := hide (rHB_at s k hlt)
      have kl := fun W => ref09_letter_any (s[k]'hlt) W
      have hlet := hide (show aLet (s[k]'hlt) = true → (s[k]'hlt).toNat ≠ 46 from fun h => by unfold aLet at h; rw [decide_eq_true_eq] at h; omega)
      obtain ⟨L, hL⟩ : ∃ L, L = aLet (s[k]'hlt) := ⟨_, rfl⟩
      rw [← hL] at kl hdef hlet
      clear hL
      rcases Nat.eq_zero_or_pos k with k0 | kp
      · subst k0
        rw [show ((0 : Nat) : Int) = 0 from rfl] at *
        cases L with
        | true =>
          have i46 : ((((s[0]'hlt).toNat : Int)) == 46) = false := by rw [beq_eq_false_iff_ne]; have := hlet.out rfl; omega
          have hg2 := hide (hgood.out (by rw [hdef.out]; simp))
          clear hdef hgood hbad hlet
          go_wp2_with fail
          refine (kl _).mono ?_; rintro e w1 ⟨rfl, rfl⟩
          go_wp2_with fail
          go_roundw
          case rel => exact ⟨0 + 1, by omega, by simp, hg2.out, by first | rfl | trivial⟩
          case measure => simp [intOf] <;> omega
        | false =>
          have hR2 := hide (hbad.out (by rw [hdef.out]; simp))
          clear hdef hgood hbad hlet
          go_wp2_with fail
          refine (kl _).mono ?_; rintro e w1 ⟨rfl, rfl⟩
          go_wp2_with fail
          go_ret
          exact ⟨by rw [hR2.out]; rfl, Below.refl _ _⟩
      · have k0I : ((k : Int) == 0) = false := by rw [beq_eq_false_iff_ne]; omega
        have kpI : (0 : Int) < (k : Int) := by omega
        have hkm := hide (show (k : Int) - 1 = ((k - 1 : Nat) : Int) by omega)
        by_cases he : k + 1 = s.size
        · have heI : ((k : Int) + 1 == (s.size : Int)) = true := by rw [beq_iff_eq]; omega
          replace he := hide he
          cases L with
          | true =>
            have i46 : ((((s[k]'hlt).toNat : Int)) == 46) = false := by rw [beq_eq_false_iff_ne]; have := hlet.out rfl; omega
            have n46 := hlet.out rfl
            have hg2 := hide (hgood.out (by rw [hdef.out]; simp [n46]))
            clear hdef hgood hbad hlet n46
            go_wp2_with fail
            refine (kl _).mono ?_; rintro e w1 ⟨rfl, rfl⟩
            go_wp2_with fail
            go_roundw
            case rel => exact ⟨k + 1, by omega, by simp, hg2.out, by first | rfl | trivial⟩
            case measure => simp [intOf] <;> omega
          | false =>
            have hR2 := hide (hbad.out (by rw [hdef.out]; simp [he.out]))
            clear hdef hgood hbad hlet
            go_wp2_with fail
            refine (kl _).mono ?_; rintro e w1 ⟨rfl, rfl⟩
            go_wp2_with fail
            go_ret
            exact ⟨by rw [hR2.out]; rfl, Below.refl _ _⟩
        · have heI : ((k : Int) + 1 == (s.size : Int)) = false := by rw [beq_eq_false_iff_ne]; omega
          replace he := hide he
          cases L with
          | true =>
            have i46 : ((((s[k]'hlt).toNat : Int)) == 46) = false := by rw [beq_eq_false_iff_ne]; have := hlet.out rfl; omega
            have n46 := hlet.out rfl
            have hg2 := hide (hgood.out (by rw [hdef.out]; simp [n46]))
            clear hdef hgood hbad hlet n46
            go_wp2_with fail
            refine (kl _).mono ?_; rintro e w1 ⟨rfl, rfl⟩
            go_wp2_with fail
            go_roundw
            case rel => exact ⟨k + 1, by omega, by simp, hg2.out, by first | rfl | trivial⟩
            case measure => simp [intOf] <;> omega
          | false =>
            have hsp : (s[k]'hlt).toNat = 45 ∨ (s[k]'hlt).toNat = 46 ∨ ((s[k]'hlt).toNat ≠ 45 ∧ (s[k]'hlt).toNat ≠ 46) := by omega
            rcases hsp with hsp | hsp | hsp
            · have i45 : ((s[k]'hlt).toNat : Int) = 45 := by omega
              rw [i45] at kl
              have n46 : (s[k]'hlt).toNat ≠ 46 := by omega
              have hg2 := hide (hgood.out (by rw [hdef.out]; simp [he.out, hsp]; omega))
              clear hdef hgood hbad hlet n46 hsp
              go_wp2_with fail
              refine (kl _).mono ?_; rintro e w1 ⟨rfl, rfl⟩
              go_wp2_with fail
              go_roundw
              case rel => exact ⟨k + 1, by omega, by simp, hg2.out, by first | rfl | trivial⟩
              case measure => simp [intOf] <;> omega
            · have i46 : ((s[k]'hlt).toNat : Int) = 46 := by omega
              rw [i46] at kl
              by_cases hy : (s[k - 1]'(by omega)).toNat = 46
              · have j46 : ((s[k - 1]'(by omega)).toNat : Int) = 46 := by omega
                have hR2 := hide (hbad.out (by rw [hdef.out]; simp [he.out, hsp, hy]; omega))
                clear hdef hgood hbad hlet hsp hy
                go_wp2_with fail
                refine (kl _).mono ?_; rintro e w1 ⟨rfl, rfl⟩
                go_wp2_with fail
                go_ret
                exact ⟨by rw [hR2.out]; rfl, Below.refl _ _⟩
              · have j46 : (((s[k - 1]'(by omega)).toNat : Int) == 46) = false := by rw [beq_eq_false_iff_ne]; omega
                have hg2 := hide (hgood.out (by rw [hdef.out]; simp [he.out, hsp, hy]; omega))
                clear hdef hgood hbad hlet hsp hy
                go_wp2_with fail
                refine (kl _).mono ?_; rintro e w1 ⟨rfl, rfl⟩
                go_wp2_with fail
                go_roundw
                case rel => exact ⟨k + 1, by omega, by simp, hg2.out, by first | rfl | trivial⟩
                case measure => simp [intOf] <;> omega
            · have i45 : ¬ ((s[k]'hlt).toNat : Int) = 45 := by omega
              have i46 : ¬ ((s[k]'hlt).toNat : Int) = 46 := by omega
              have hR2 := hide (hbad.out (by rw [hdef.out]; simp [hsp.1, hsp.2]))
              clear hdef hgood hbad hlet hsp
              go_wp2_with fail
              refine (kl _).mono ?_; rintro e w1 ⟨rfl, rfl⟩
              go_wp2_with fail
              go_ret
              exact ⟨by rw [hR2.out]; rfl, Below.refl _ _⟩
    · obtain rfl : k = s.size := by omega
      have hR2 := hide (show R = true by rw [hR.out]; exact decide_eq_true hno.out)
      go_wp2_with fail
      go_ret
      exact ⟨by rw [hR2.out]; rfl, Below.refl _ _⟩
end Go.Proofs.Ytfgfkiifekeeaaa
