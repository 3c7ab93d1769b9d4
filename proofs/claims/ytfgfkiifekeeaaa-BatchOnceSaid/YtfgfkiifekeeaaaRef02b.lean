/- The document's answers of layer 2: value, Next. -/
import Derived.Test.YtfgfkiifekeeaaaRef02
namespace Go.Proofs.Ytfgfkiifekeeaaa
open Go.RowKit Go.Shelf
set_option linter.unusedSimpArgs false
set_option linter.unusedVariables false

theorem getD_at (s : ByteArray) (k : Nat) (h : k < s.size) : s.data.toList.getD k 0 = s[k] := by
  have h2 : k < s.data.toList.length := by rw [list_size]; exact h
  rw [List.getD_eq_getElem?_getD, List.getElem?_eq_getElem h2]
  simp [ByteArray.getElem_eq_getElem_data]
theorem uVal_four (s : List UInt8) : uVal s 4 = 262144 * ((s.getD 0 0).toNat - 240) + 4096 * ((s.getD 1 0).toNat - 128) + 64 * ((s.getD 2 0).toNat - 128) + (s.getD 3 0).toNat - 128 := rfl
set_option maxRecDepth 1000000 in
set_option maxHeartbeats 4000000 in
theorem ref02_value_any (s : ByteArray) (hs : s.size ≤ maxLen) (n : Nat) (h1 : 1 ≤ n) (h4 : n ≤ 4) (hn : n ≤ s.size) (w : World) : Calls Try.prog 91 #[.string s, .int .i64 n] w fun e w' => e = .returned (.int .i64 (uVal s.data.toList n)) ∧ ∃ m, w.drewN m = w' := by
  obtain ⟨R, hR⟩ : ∃ R, R = uVal s.data.toList n := ⟨_, rfl⟩
  rw [← hR]
  unfold maxLen at hs
  obtain rfl | rfl | rfl | rfl : n = 1 ∨ n = 2 ∨ n = 3 ∨ n = 4 := by omega
  · have hs0 : (0 : Int) < (s.size : Int) := by omega
    have hn0 : 0 < s.size := by omega
    rw [uVal, getD_at s 0 (by omega)] at hR
    have b0 := (s[0]'(by omega)).toNat_lt
    replace hR := hide hR
    go_enter Try.func91, Try.ntmps91
    go_wp2
    go_ret
    exact ⟨by rw [hR.out]; rfl, 0, rfl⟩
  · have hs0 : (0 : Int) < (s.size : Int) := by omega
    have hn0 : 0 < s.size := by omega
    have hs1 : (1 : Int) < (s.size : Int) := by omega
    have hn1 : 1 < s.size := by omega
    rw [uVal, getD_at s 0 (by omega), getD_at s 1 (by omega)] at hR
    have b0 := (s[0]'(by omega)).toNat_lt
    have b1 := (s[1]'(by omega)).toNat_lt
    replace hR := hide hR
    go_enter Try.func91, Try.ntmps91
    go_wp2
    go_quiet (fail)
    go_wp2
    go_ret
    exact ⟨by rw [hR.out]; rfl, _, rfl⟩
  · have hs0 : (0 : Int) < (s.size : Int) := by omega
    have hn0 : 0 < s.size := by omega
    have hs1 : (1 : Int) < (s.size : Int) := by omega
    have hn1 : 1 < s.size := by omega
    have hs2 : (2 : Int) < (s.size : Int) := by omega
    have hn2 : 2 < s.size := by omega
    rw [uVal, getD_at s 0 (by omega), getD_at s 1 (by omega), getD_at s 2 (by omega)] at hR
    have b0 := (s[0]'(by omega)).toNat_lt
    have b1 := (s[1]'(by omega)).toNat_lt
    have b2 := (s[2]'(by omega)).toNat_lt
    replace hR := hide hR
    go_enter Try.func91, Try.ntmps91
    go_wp2
    go_quiet (fail)
    go_wp2
    go_ret
    exact ⟨by rw [hR.out]; rfl, _, rfl⟩
  · have hs0 : (0 : Int) < (s.size : Int) := by omega
    have hn0 : 0 < s.size := by omega
    have hs1 : (1 : Int) < (s.size : Int) := by omega
    have hn1 : 1 < s.size := by omega
    have hs2 : (2 : Int) < (s.size : Int) := by omega
    have hn2 : 2 < s.size := by omega
    have hs3 : (3 : Int) < (s.size : Int) := by omega
    have hn3 : 3 < s.size := by omega
    rw [uVal_four, getD_at s 0 (by omega), getD_at s 1 (by omega), getD_at s 2 (by omega), getD_at s 3 (by omega)] at hR
    have b0 := (s[0]'(by omega)).toNat_lt
    have b1 := (s[1]'(by omega)).toNat_lt
    have b2 := (s[2]'(by omega)).toNat_lt
    have b3 := (s[3]'(by omega)).toNat_lt
    replace hR := hide hR
    go_enter Try.func91, Try.ntmps91
    go_wp2
    go_quiet (fail)
    go_wp2
    go_ret
    exact ⟨by rw [hR.out]; rfl, _, rfl⟩
theorem str_beq (a b : ByteArray) : (a.toList == b.toList) = decide (a.data.toList = b.data.toList) := by
  rw [ByteArray.toList_eq, ByteArray.toList_eq]
  by_cases h : a.data.toList = b.data.toList
  · rw [decide_eq_true h, h]; simp
  · rw [decide_eq_false h]; simpa using h
theorem uNext_none (s : List UInt8) (h : ∀ m, 1 ≤ m → m ≤ 4 → m ≤ s.length → uFit s m = false) : uNext s = (-1, min 1 s.length) := by
  rcases uNext_inv s with ⟨h1, h2⟩ | ⟨h1, h2, h3⟩
  · exact Prod.ext h1 h2
  · exfalso
    have hc := (uChar_iff _).1 h1
    have h4 := uFit_of s (by omega)
    have hp := uPut_ne (uNext s).1
    have hz := uNext_size s
    rw [h (uNext s).2 (by omega) (by omega) (by omega)] at h4
    cases h4
theorem uNext_ascii (s : ByteArray) (h : 0 < s.size) (hb : s[0].toNat < 128) : uNext s.data.toList = ((s[0].toNat : Int), 1) := by
  obtain ⟨r, hl, hz⟩ := str_cons s (by omega)
  have hc : uChar (s[0].toNat : Int) = true := by rw [uChar_iff]; omega
  have := uNext_put (s[0].toNat : Int) hc r
  have hp : uPut (s[0].toNat : Int) = [s[0]] := by
    unfold uPut uPutN
    rw [Int.toNat_natCast, if_pos hb, List.map_cons, List.map_nil, u8_eq _ _ rfl]
  rw [hp] at this
  rw [hl]
  exact this
set_option maxRecDepth 1000000 in
set_option maxHeartbeats 4000000 in
theorem ref02_Next_any (s : ByteArray) (hs : s.size ≤ maxLen) (w : World) :
    Calls Try.prog 87 #[.string s] w fun e w' => e = .returned (.tuple #[.int .i64 (uNext s.data.toList).1, .int .i64 (uNext s.data.toList).2]) ∧ Below w.heap.size w w' := by
  have hs' := hs
  unfold maxLen at hs
  by_cases hz : s.size = 0
  · have hl : s.data.toList = [] := List.eq_nil_of_length_eq_zero (by rw [list_size]; exact hz)
    obtain rfl : s = ByteArray.empty := by
      have := strOf_of s
      rw [hl] at this
      exact this.symm
    have hR : uNext ByteArray.empty.data.toList = (-1, 0) := rfl
    rw [hR]
    go_enter Try.func87, Try.ntmps87
    go_wp2_with fail
    go_loopw [4] (fun i wr => i = .int .i64 1 ∧ wr = w) (fun i _ => 5 - (intOf i).toNat)
    case atStart => exact ⟨rfl, rfl⟩
    case round =>
      obtain ⟨rfl, rfl⟩ := hrel
      go_wp2
      go_ret2
      exact ⟨rfl, Below.refl _ _⟩
  have hz1 : 0 < s.size := by omega
  have hz2 : (0 : Int) < (s.size : Int) := by omega
  by_cases ha : s[0].toNat < 128
  · have hR := hide (uNext_ascii s hz1 ha)
    have ha2 : (s[0].toNat : Int) < 128 := by omega
    generalize uNext s.data.toList = R at *
    go_enter Try.func87, Try.ntmps87
    go_wp2
    go_ret2
    exact ⟨by rw [hR.out]; rfl, Below.refl _ _⟩
  have ha2 : (128 : Int) ≤ (s[0].toNat : Int) := by omega
  have HF := hide (uFit_next s.data.toList)
  have HN := hide (uNext_none s.data.toList)
  obtain ⟨R, hR⟩ : ∃ R, R = uNext s.data.toList := ⟨_, rfl⟩
  rw [← hR] at HF HN ⊢
  clear hR
  go_enter Try.func87, Try.ntmps87
  go_wp2_with fail
  go_loopw [4] (fun i wr => ∃ n : Nat, 1 ≤ n ∧ n ≤ 5 ∧ i = .int .i64 n ∧ (∀ m, 1 ≤ m → m < n → uFit s.data.toList m = false) ∧ Below w.heap.size w wr) (fun i _ => 5 - (intOf i).toNat)
  case atStart => exact ⟨1, by omega, by omega, rfl, fun m h1 h2 => by omega, Below.refl _ _⟩
  case round =>
    obtain ⟨n, hn1, hn5, rfl, hnf, hb⟩ := hrel
    replace hnf := hide hnf
    by_cases hin : n ≤ 4 ∧ n ≤ s.size
    · have hi1 : (n : Int) ≤ 4 := by omega
      have hi2 : (n : Int) ≤ (s.size : Int) := by omega
      have hval := fun W => ref02_value_any s hs' n hn1 hin.1 hin.2 W
      have hft : uFit s.data.toList n = (uChar (uVal s.data.toList n) && decide (s.data.toList.take n = uPut (uVal s.data.toList n))) := rfl
      have HT := hide hft
      clear hft
      obtain ⟨c, hcv⟩ : ∃ c, c = uVal s.data.toList n := ⟨_, rfl⟩
      rw [← hcv] at hval HT
      replace hcv := hide hcv
      have hput := fun W => ref02_Put_any c W
      cases hu : uChar c with
      | false =>
        simp only [hu, Bool.false_eq_true, if_false] at hput
        go_wp2_with fail
        refine (hval _).mono ?_; rintro e w2 ⟨rfl, q, rfl⟩
        go_wp2_with fail
        refine (hput _).mono ?_; rintro e w2 ⟨rfl, hb2⟩
        go_wp2_with fail
        go_roundw
        case rel =>
          refine ⟨n + 1, by omega, by omega, by simp, fun m h1 h2 => ?_, (hb.drewN _).step hb2⟩
          by_cases e : m = n
          · subst e; rw [HT.out, hu]; rfl
          · exact hnf.out m h1 (by omega)
        case measure => simp [intOf]; omega
      | true =>
        simp only [hu, if_true] at hput
        replace HT := hide (show uFit s.data.toList n = decide (s.data.toList.take n = uPut c) by rw [HT.out, hu, Bool.true_and])
        have hE := str_beq (strOf (uPut c)) (s.extract 0 n)
        rw [ext_list, List.drop_zero, strOf_list] at hE
        by_cases he : s.data.toList.take n = uPut c
        · rw [decide_eq_true he.symm] at hE
          have hR := hide (show R = (c, n) by rw [HF.out n (by rw [list_size]; exact hin.2) (by rw [HT.out, decide_eq_true he]), ← hcv.out])
          clear he
          go_wp2_with fail
          refine (hval _).mono ?_; rintro e w2 ⟨rfl, q, rfl⟩
          go_wp2_with fail
          refine (hput _).mono ?_; rintro e w2 ⟨rfl, hb2⟩
          go_wp2_with fail
          go_ret2
          exact ⟨by rw [hR.out]; rfl, (hb.drewN _).step hb2⟩
        · rw [decide_eq_false (fun h => he h.symm)] at hE
          have hft := hide (show uFit s.data.toList n = false by rw [HT.out, decide_eq_false he])
          clear he
          go_wp2_with fail
          refine (hval _).mono ?_; rintro e w2 ⟨rfl, q, rfl⟩
          go_wp2_with fail
          refine (hput _).mono ?_; rintro e w2 ⟨rfl, hb2⟩
          go_wp2_with fail
          go_roundw
          case rel =>
            refine ⟨n + 1, by omega, by omega, by simp, fun m h1 h2 => ?_, (hb.drewN _).step hb2⟩
            by_cases e : m = n
            · subst e; exact hft.out
            · exact hnf.out m h1 (by omega)
          case measure => simp [intOf]; omega
    · have hR := hide (HN.out (fun m h1 h2 h3 => hnf.out m h1 (by rw [list_size] at h3; omega)))
      rw [list_size] at hR
      by_cases h5 : n ≤ 4
      · have h5I : (n : Int) ≤ 4 := by omega
        have h6I : (s.size : Int) < (n : Int) := by omega
        go_wp2_with fail
        go_ret2
        exact ⟨by rw [hR.out, Nat.min_eq_left (by omega)]; rfl, hb⟩
      · have h5I : (4 : Int) < (n : Int) := by omega
        go_wp2_with fail
        go_ret2
        exact ⟨by rw [hR.out, Nat.min_eq_left (by omega)]; rfl, hb⟩
end Go.Proofs.Ytfgfkiifekeeaaa
