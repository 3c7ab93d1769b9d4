/- UtfReads, UtfLays: the walks. -/
import Derived.Test.YtonokkcnbbljoaaAwake02
namespace Go.Proofs.Ytonokkcnbbljoaa
open Go.RowKit Go.Shelf
set_option linter.unusedSimpArgs false
set_option linter.unusedVariables false

set_option maxRecDepth 1000000 in
set_option maxHeartbeats 8000000 in
theorem UtfReads_walk (s : ByteArray) (most : Int) (hs : s.size ≤ maxLen) (hm : -9223372036854775808 ≤ most ∧ most ≤ 9223372036854775807) (w : World) :
    Calls Try.prog 3 #[.string s, .int .i64 most] w fun e w' => e = .returned (.bool true) ∧ Below w.heap.size w w' := by
  have hs' := hs
  unfold maxLen at hs
  by_cases h200 : 200 < s.size
  · have hI : (200 : Int) < (s.size : Int) := by omega
    go_enter Try.func3, Try.ntmps3
    go_wp2_with fail
    refine (awake02 _).mono ?_; rintro e w1 ⟨rfl, hb⟩
    go_wp2_with fail
    go_ret
    exact ⟨rfl, hb⟩
  have hI : (s.size : Int) ≤ 200 := by omega
  have hs1 : s.size ≤ 1000000 := by omega
  have n1 := fun W => utf_Next_any s hs' W
  have n2 := fun W => ref02_Next_any s hs' W
  have l1 := fun W => utf_All_any s hs1 W
  have l2 := fun W => ref02_All_any s hs1 W
  have c1 := fun W => utf_Count_any s hs' W
  have c2 := fun W => ref02_Count_any s hs1 W
  have k1 := fun W => utf_Check_any s hs' W
  have k2 := fun W => ref02_Check_any s hs1 W
  have u1 := fun W => utf_Cut_any s hs' most hm W
  have u2 := fun W => ref02_Cut_any s hs1 most hm W
  have o1 := fun W => utf_Low_any s hs' W
  have o2 := fun W => ref02_Low_any s hs1 W
  have p1 := fun W => utf_Plain_any s hs' W
  have p2 := fun W => ref02_Plain_any s hs1 W
  have hla : (uAll s.data.toList).length ≤ maxLen := by
    unfold uAll
    split
    · simp [maxLen]
    · rw [List.length_map]; have := uScan_len s.data.toList; rw [list_size] at this; unfold maxLen; omega
  generalize uNext s.data.toList = p at *
  generalize uAll s.data.toList = L at *
  generalize (uScan s.data.toList).length = C at *
  generalize (if uBad s.data.toList = true then (11 : Int) else 0) = K at *
  generalize s.extract 0 (uCut s.data.toList most) = U at *
  generalize lowS s = O at *
  generalize uPlain s.data.toList = P at *
  go_enter Try.func3, Try.ntmps3
  go_wp2_with fail
  refine (n1 _).mono ?_; rintro e w1 ⟨rfl, hb⟩
  go_wp2_with fail
  refine (n2 _).mono ?_; rintro e w2 ⟨rfl, hb2⟩; replace hb := hb.step hb2; clear hb2
  go_wp2_with fail
  refine (l1 _).mono ?_; rintro e w3 ⟨v3, rfl, ho3, hb2⟩; replace hb := hb.step hb2; clear hb2
  go_wp2_with fail
  refine (l2 _).mono ?_; rintro e w4 ⟨v4, rfl, ho4, hb2⟩; replace hb := hb.step hb2
  replace ho3 := own_below ho3 hb2 (Nat.le_refl _)
  clear hb2
  obtain ⟨A3, c3, rfl⟩ := own_form ho3
  obtain ⟨A4, c4, rfl⟩ := own_form ho4
  go_wp2_with fail
  refine (SameInts_any _ _ c3 c4 L L _ hla (own_rd ho3) (own_rd ho4)).mono ?_; rintro e w5 ⟨rfl, n5, rfl⟩
  replace hb := hb.drewN n5
  clear ho3 ho4
  generalize World.drewN _ n5 = w5 at *
  go_wp2_with fail
  refine (c1 _).mono ?_; rintro e w6 ⟨rfl, hb2⟩; replace hb := hb.step hb2; clear hb2
  go_wp2_with fail
  refine (c2 _).mono ?_; rintro e w7 ⟨rfl, hb2⟩; replace hb := hb.step hb2; clear hb2
  go_wp2_with fail
  refine (k1 _).mono ?_; rintro e w8 ⟨rfl, hb2⟩; replace hb := hb.step hb2; clear hb2
  go_wp2_with fail
  refine (k2 _).mono ?_; rintro e w9 ⟨rfl, hb2⟩; replace hb := hb.step hb2; clear hb2
  go_wp2_with fail
  refine (u1 _).mono ?_; rintro e w10 ⟨rfl, hb2⟩; replace hb := hb.step hb2; clear hb2
  go_wp2_with fail
  refine (u2 _).mono ?_; rintro e w11 ⟨rfl, hb2⟩; replace hb := hb.step hb2; clear hb2
  go_wp2_with fail
  refine (o1 _).mono ?_; rintro e w12 ⟨rfl, hb2⟩; replace hb := hb.step hb2; clear hb2
  go_wp2_with fail
  refine (o2 _).mono ?_; rintro e w13 ⟨rfl, hb2⟩; replace hb := hb.step hb2; clear hb2
  go_wp2_with fail
  refine (p1 _).mono ?_; rintro e w14 ⟨rfl, hb2⟩; replace hb := hb.step hb2; clear hb2
  go_wp2_with fail
  refine (p2 _).mono ?_; rintro e w15 ⟨rfl, hb2⟩; replace hb := hb.step hb2; clear hb2
  go_wp2_with fail
  refine (awake02 _).mono ?_; rintro e w16 ⟨rfl, hb2⟩; replace hb := hb.step hb2; clear hb2
  go_wp2_with fail
  go_ret
  exact ⟨rfl, hb⟩
set_option maxRecDepth 1000000 in
set_option maxHeartbeats 8000000 in
theorem UtfLays_walk (c : Int) (A : Option Addr) (cap : Nat) (l : List Int) (w : World) (hr : Rd w w.heap.size A (iCells l)) (hl : l.length ≤ maxLen) :
    Calls Try.prog 4 #[.int .i64 c, .slice A l.length cap] w fun e w' => e = .returned (.bool true) ∧ Below w.heap.size w w' := by
  unfold maxLen at hl
  by_cases h100 : 100 < l.length
  · have hI : (100 : Int) < (l.length : Int) := by omega
    go_enter Try.func4, Try.ntmps4
    go_wp2_with fail
    refine (awake02 _).mono ?_; rintro e w1 ⟨rfl, hb⟩
    go_wp2_with fail
    go_ret
    exact ⟨rfl, hb⟩
  have hI : (l.length : Int) ≤ 100 := by omega
  have n1 := fun W => utf_Put_any c W
  have n2 := fun W => ref02_Put_any c W
  have l1 := fun W h => utf_Of_any A l cap (by omega) W h
  have l2 := fun W h => ref02_Of_any A l cap (by omega) W h
  obtain ⟨s, k, hsk⟩ : ∃ s k, (if uChar c = true then Value.tuple #[.string (strOf (uPut c)), .int .i64 0] else Value.tuple #[.string ByteArray.empty, .int .i64 8]) = .tuple #[.string s, .int .i64 k] := by
    split
    · exact ⟨_, _, rfl⟩
    · exact ⟨_, _, rfl⟩
  rw [hsk] at n1 n2
  clear hsk
  generalize uOf l = O at *
  go_enter Try.func4, Try.ntmps4
  go_wp2_with fail
  refine (n1 _).mono ?_; rintro e w1 ⟨rfl, hb⟩
  go_wp2_with fail
  refine (n2 _).mono ?_; rintro e w2 ⟨rfl, hb2⟩; replace hb := hb.step hb2; clear hb2
  go_wp2_with fail
  refine (l1 _ ((hr.below hb).more hb.size)).mono ?_; rintro e w3 ⟨rfl, hb2⟩; replace hb := hb.step hb2; clear hb2
  go_wp2_with fail
  refine (l2 _ ((hr.below hb).more hb.size)).mono ?_; rintro e w4 ⟨rfl, hb2⟩; replace hb := hb.step hb2; clear hb2
  go_wp2_with fail
  refine (awake02 _).mono ?_; rintro e w16 ⟨rfl, hb2⟩; replace hb := hb.step hb2; clear hb2
  go_wp2_with fail
  go_ret
  exact ⟨rfl, hb⟩
end Go.Proofs.Ytonokkcnbbljoaa
