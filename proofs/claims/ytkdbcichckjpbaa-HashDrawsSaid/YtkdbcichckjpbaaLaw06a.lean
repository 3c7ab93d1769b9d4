/- The walks of the laws of callboylaw06/law.go: each returns true and writes nothing that was there. -/
import Derived.Test.YtkdbcichckjpbaaAwake06
namespace Go.Proofs.Ytkdbcichckjpbaa
open Go.RowKit
set_option linter.unusedSimpArgs false
set_option linter.unusedVariables false

theorem HashDraws_walk (n most : Int) (h0 : 0 ≤ n) (h1 : n ≤ 18446744073709551615) (h2 : most ≤ 9223372036854775807) (w : World) :
    Calls Try.prog 4 #[.int .u64 n, .int .i64 most] w fun e w' => e = .returned (.bool true) ∧ Below w.heap.size w w' := by
  go_enter Try.func4, Try.ntmps4
  go_wp2_with fail
  refine (hash_Draw_any _ h0 h1 _).mono ?_; rintro e w1 ⟨rfl, hb⟩
  go_wp2_with fail
  refine (rDraw_any _ h0 h1 _).mono ?_; rintro e w2 ⟨rfl, rfl⟩
  go_wp2_with fail
  refine (hash_Mix_any _ h0 h1 _).mono ?_; rintro e w2 ⟨rfl, rfl⟩
  go_wp2_with fail
  refine (rMix_any _ h0 h1 _).mono ?_; rintro e w2 ⟨rfl, rfl⟩
  go_wp2_with fail
  refine (hash_Below_any _ _ h0 h1 h2 _).mono ?_; rintro e w2 ⟨rfl, rfl⟩
  go_wp2_with fail
  refine (rBelow_any _ _ h0 h1 h2 _).mono ?_; rintro e w2 ⟨rfl, rfl⟩
  go_wp2_with fail
  refine (awake06 _).mono ?_; rintro e w2 ⟨rfl, hb'⟩; replace hb := hb.then_ hb' hb.size
  go_wp2
  go_ret
  exact ⟨rfl, hb⟩

theorem HashTells_walk (s t : ByteArray) (room : Int) (hs : s.size ≤ maxLen) (ht : t.size ≤ maxLen) (h2 : room ≤ 9223372036854775807) (w : World) :
    Calls Try.prog 3 #[.string s, .string t, .int .i64 room] w fun e w' => e = .returned (.bool true) ∧ Below w.heap.size w w' := by
  by_cases h200 : s.size ≤ 200
  · by_cases h200' : t.size ≤ 200
    · have hof := hOf_bd s.data.toList
      go_enter Try.func3, Try.ntmps3
      go_wp2_with fail
      refine (hash_Of_any _ hs _).mono ?_; rintro e w1 ⟨rfl, hb⟩
      go_wp2_with fail
      refine (rOf_any _ hs _).mono ?_; rintro e w2 ⟨rfl, rfl⟩
      go_wp2_with fail
      refine (hash_More_any _ _ ht _).mono ?_; rintro e w2 ⟨rfl, hb'⟩; replace hb := hb.then_ hb' hb.size
      go_wp2_with fail
      refine (rMore_any _ _ ht _).mono ?_; rintro e w3 ⟨rfl, rfl⟩
      go_wp2_with fail
      refine (hash_Pair_any _ _ hs ht _).mono ?_; rintro e w3 ⟨rfl, hb'⟩; replace hb := hb.then_ hb' hb.size
      go_wp2_with fail
      refine (rPair_any _ _ (by omega) _).mono ?_; rintro e w4 ⟨rfl, rfl⟩
      go_wp2_with fail
      refine (hash_Slot_any _ _ hof.1 hof.2 h2 _).mono ?_; rintro e w4 ⟨rfl, rfl⟩
      go_wp2_with fail
      refine (rSlot_any _ _ hof.1 hof.2 h2 _).mono ?_; rintro e w4 ⟨rfl, rfl⟩
      go_wp2_with fail
      refine (awake06 _).mono ?_; rintro e w4 ⟨rfl, hb'⟩; replace hb := hb.then_ hb' hb.size
      go_wp2
      go_ret
      exact ⟨rfl, hb⟩
    · go_enter Try.func3, Try.ntmps3
      go_wp2_with fail
      refine (awake06 _).mono ?_; rintro e w4 ⟨rfl, hb'⟩
      go_wp2
      go_ret
      exact ⟨rfl, hb'⟩
  · go_enter Try.func3, Try.ntmps3
    go_wp2_with fail
    refine (awake06 _).mono ?_; rintro e w4 ⟨rfl, hb'⟩
    go_wp2
    go_ret
    exact ⟨rfl, hb'⟩

theorem HashSpreads_walk (A : Option Addr) (c : Nat) (l : List ByteArray) (room : Int) (h2 : room ≤ 9223372036854775807) (w : World) (hl : l.length ≤ maxLen) (hs : ∀ s ∈ l, s.size ≤ maxLen) (ha : Rd w w.heap.size A (strs' l)) :
    Calls Try.prog 5 #[.slice A l.length c, .int .i64 room] w fun e w' => e = .returned (.bool true) ∧ Below w.heap.size w w' := by
  unfold maxLen at hl
  by_cases h60 : l.length ≤ 60
  · go_enter Try.func5, Try.ntmps5
    go_wp2
    go_loop [5] (fun i => ∃ k : Nat, k ≤ l.length ∧ i = .int .i64 k) (fun i => l.length - (intOf i).toNat)
    case atStart => exact ⟨0, Nat.zero_le _, rfl⟩
    case round =>
      obtain ⟨k, hk, rfl⟩ := hrel
      by_cases hlt : k < l.length
      · obtain ⟨ad, rfl, hadb, hca⟩ := ha.at_ (k := k) (by simpa using hlt)
        have hc1 : w.cell? (ad.add k) = some (.string l[k]) := by rw [hca]; simp
        have hsk := hs _ (List.getElem_mem hlt)
        unfold maxLen at hsk
        generalize l[k] = s at *
        clear hca ha hs
        by_cases h100 : s.size ≤ 100
        · go_wp2
          go_round
          case rel => exact ⟨k + 1, by omega, by go_num⟩
          case measure => simp [intOf]; omega
        · go_wp2_with fail
          refine (awake06 _).mono ?_; rintro e w4 ⟨rfl, hb'⟩
          go_wp2
          go_ret
          exact ⟨rfl, hb'⟩
      · by_cases hr : 1 ≤ room ∧ room ≤ 256
        · obtain ⟨r, rfl⟩ : ∃ r : Nat, room = r := ⟨room.toNat, by omega⟩
          have hr1 : 1 ≤ r ∧ r ≤ 256 := by omega
          clear hr
          go_wp2_with fail
          refine (hash_Spread_any _ _ l r (by omega) (by omega) _ (by omega) hs ha).mono ?_; rintro e w1 ⟨rfl, hbk1, hb⟩
          go_wp2_with fail
          refine (rSpread_any _ _ l r (by omega) (by omega) _ (by omega) hs ((ha.below hb).more hb.size)).mono ?_; rintro e w2 ⟨rfl, hbk2, hb'⟩
          have r1 := (hbk1.below hb' hbk1.lt).rd
          have r2 := hbk2.rd
          replace hb := hb.then_ hb' hb.size
          clear hbk1 hbk2 hb'
          go_wp2_with fail
          have hsl := hSpread_length r l
          have hS := SameInts_any (some ⟨w.heap.size, 0, none⟩) (some ⟨w1.heap.size, 0, none⟩) r r (hSpread r l) (hSpread r l) w2 (by unfold maxLen; omega) r1 r2
          rw [hsl] at hS
          refine hS.mono ?_; rintro e w3 ⟨rfl, n, rfl⟩
          clear hS
          go_wp2_with fail
          refine (awake06 _).mono ?_; rintro e w4 ⟨rfl, hb'⟩; replace hb := (hb.drewN n).then_ hb' hb.size
          go_wp2
          go_ret
          exact ⟨rfl, hb⟩
        · have hr' : room < 1 ∨ 256 < room := by omega
          have HR := hide hr'
          clear hr hr'
          go_wp2_with fail
          refine (hash_Spread_no _ _ _ _ HR.out _).mono ?_; rintro e w1 ⟨rfl, rfl⟩
          go_wp2_with fail
          refine (rSpread_no _ _ _ _ HR.out _).mono ?_; rintro e w1 ⟨rfl, rfl⟩
          go_wp2_with fail
          refine (SameInts_any none none 0 0 [] [] w (by decide) Rd.nil Rd.nil).mono ?_; rintro e w3 ⟨rfl, n, rfl⟩
          go_wp2_with fail
          refine (awake06 _).mono ?_; rintro e w4 ⟨rfl, hb'⟩
          go_wp2
          go_ret
          exact ⟨rfl, ((Below.refl _ _).drewN n).then_ hb' (Nat.le_refl _)⟩
  · go_enter Try.func5, Try.ntmps5
    go_wp2_with fail
    refine (awake06 _).mono ?_; rintro e w4 ⟨rfl, hb'⟩
    go_wp2
    go_ret
    exact ⟨rfl, hb'⟩
end Go.Proofs.Ytkdbcichckjpbaa
