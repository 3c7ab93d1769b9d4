/- The walk of HashParts. -/
import Derived.Test.YtkdbcichckjpbaaAwake06
import Derived.Deep.RegionHeld3
namespace Go.Proofs.Ytkdbcichckjpbaa
open Go.RowKit
set_option linter.unusedSimpArgs false
set_option linter.unusedVariables false

theorem sum_set (l : List Int) (i : Nat) (h : i < l.length) (v : Int) : (l.set i v).sum = l.sum - l[i] + v := by
  induction l generalizing i with
  | nil => simp at h
  | cons a l ih =>
    cases i with
    | zero => simp; omega
    | succ i => simp [ih i (by simpa using h)]; omega
theorem bump_sum (l : List Int) (i : Nat) (h : i < l.length) : (bump l i).sum = l.sum + 1 := by
  unfold bump
  rw [sum_set l i h, List.getElem?_eq_getElem h]
  simp; omega
theorem hSpread_sum (room : Nat) (hr : 1 ≤ room) (l : List ByteArray) : (hSpread room l).sum = l.length := by
  unfold hSpread
  suffices h : ∀ acc : List Int, acc.length = room → (l.foldl (fun acc s => bump acc (hBelow (hOf s.data.toList) room).toNat) acc).sum = acc.sum + l.length by
    rw [h _ (by simp)]
    have : ∀ n, (List.replicate n (0 : Int)).sum = 0 := by intro n; induction n <;> simp_all [List.replicate_succ]
    rw [this]; omega
  induction l with
  | nil => intro acc _; simp
  | cons a l ih =>
    intro acc hacc
    have hb := hBelow_bd (hOf a.data.toList) room hr
    rw [List.foldl_cons, ih _ (by rw [bump_length, hacc]), bump_sum _ _ (by omega)]
    simp; omega
theorem take_sum_snoc (l : List Int) (k : Nat) (h : k < l.length) : (l.take (k + 1)).sum = (l.take k).sum + l[k] := by
  rw [take_snoc' l k h, List.sum_append]; simp
theorem sum_take_le (l : List Int) (k : Nat) (h : ∀ x ∈ l, 0 ≤ x) : 0 ≤ (l.take k).sum ∧ (l.take k).sum ≤ l.sum := by
  induction l generalizing k with
  | nil => simp
  | cons a l ih =>
    cases k with
    | zero =>
      simp
      have := ih 0 (fun x hx => h x (by simp [hx]))
      simp at this
      have := h a (by simp)
      omega
    | succ k =>
      simp
      have := ih k (fun x hx => h x (by simp [hx]))
      have := h a (by simp)
      omega
theorem cut_of (s : ByteArray) (k : Nat) (h : k ≤ s.size) : (s.extract 0 k).data.toList ++ (s.extract k s.size).data.toList = s.data.toList := by
  have hlen : s.data.toList.length = s.size := by simp
  have h1 : (s.extract 0 k).data.toList = s.data.toList.take k := by
    rw [ByteArray.data_extract, Array.toList_extract]; unfold List.extract; simp
  have h2 : (s.extract k s.size).data.toList = s.data.toList.drop k := by
    rw [ByteArray.data_extract, Array.toList_extract]; unfold List.extract; rw [List.take_of_length_le (by rw [List.length_drop, hlen]; exact Nat.le_refl _)]
  rw [h1, h2, List.take_append_drop]

set_option maxRecDepth 100000 in
theorem HashParts_walk (s : ByteArray) (cut : Int) (A : Option Addr) (c : Nat) (l : List ByteArray) (hs0 : s.size ≤ maxLen) (hc0 : 0 ≤ cut) (hc1 : cut ≤ 255) (w : World) (hl : l.length ≤ maxLen) (hs : ∀ s ∈ l, s.size ≤ maxLen) (ha : Rd w w.heap.size A (strs' l)) :
    Calls Try.prog 6 #[.string s, .int .u8 cut, .slice A l.length c] w fun e w' => e = .returned (.bool true) ∧ Below w.heap.size w w' := by
  unfold maxLen at hl hs0
  by_cases h200 : s.size ≤ 200
  · by_cases h60 : l.length ≤ 60
    · have hcm : 0 ≤ cut % ((s.size : Int) + 1) ∧ cut % ((s.size : Int) + 1) ≤ s.size := ⟨Int.emod_nonneg _ (by omega), by have := Int.emod_lt_of_pos cut (show (0 : Int) < (s.size : Int) + 1 by omega); omega⟩
      go_enter Try.func6, Try.ntmps6
      go_wp2
      go_loop [7] (fun i => ∃ k : Nat, k ≤ l.length ∧ i = .int .i64 k) (fun i => l.length - (intOf i).toNat)
      case atStart => exact ⟨0, Nat.zero_le _, rfl⟩
      case round =>
        obtain ⟨k, hk, rfl⟩ := hrel
        by_cases hlt : k < l.length
        · obtain ⟨ad, rfl, hadb, hca⟩ := ha.at_ (k := k) (by simpa using hlt)
          have hc1 : w.cell? (ad.add k) = some (.string l[k]) := by rw [hca]; simp
          have hsk := hs _ (List.getElem_mem hlt)
          unfold maxLen at hsk
          generalize l[k] = s at *
          clear hca ha hs
          by_cases h100 : s.size ≤ 100
          · go_wp2
            go_round
            case rel => exact ⟨k + 1, by omega, by go_num⟩
            case measure => simp [intOf]; omega
          · go_wp2_with fail
            refine (awake06 _).mono ?_; rintro e w4 ⟨rfl, hb'⟩
            go_wp2
            go_ret
            exact ⟨rfl, hb'⟩
        · obtain ⟨r, hr⟩ : ∃ r : Nat, 1 + cut = r := ⟨(1 + cut).toNat, by omega⟩
          obtain ⟨p, hp⟩ : ∃ p : Nat, cut % ((s.size : Int) + 1) = p := ⟨(cut % ((s.size : Int) + 1)).toNat, by omega⟩
          have hp' : p ≤ s.size := by omega
          have hr' : 1 ≤ r ∧ r ≤ 256 := by omega
          have HR := hide hr
          have HP := hide hp
          have hcm' := hide hcm
          clear hr hcm
          go_wp2_with fail
          rw [HR.out]
          clear hp
          refine (hash_Spread_any _ _ l r (by omega) (by omega) _ (by omega) hs ha).mono ?_; rintro e w1 ⟨rfl, hbk1, hb⟩
          have hM1 := hSpread_length r l
          have hM2 := hSpread_le r l
          have hM3 := hSpread_sum r hr'.1 l
          generalize hSpread r l = M at *
          have hbk := hide hbk1
          have HM := hide hM1
          have HM2 := hide hM2
          have HM3 := hide hM3
          clear hbk1 hM1 hM2 hM3 hs ha
          go_wp2_with fail
          go_loop [9, 11] (fun t i => ∃ k : Nat, k ≤ r ∧ i = .int .i64 k ∧ t = .int .i64 (M.take k).sum) (fun _ i => r - (intOf i).toNat)
          case atStart => exact ⟨0, Nat.zero_le _, rfl, rfl⟩
          case round =>
            obtain ⟨j, hj, rfl, rfl⟩ := hrel
            have hsum := sum_take_le M j (fun x hx => (HM2.out x hx).1)
            have hsum2 : (M.take j).sum ≤ l.length := by rw [HM3.out] at hsum; exact hsum.2
            by_cases hjlt : j < r
            · have hjM : j < M.length := by rw [HM.out]; exact hjlt
              have hcell : w1.cell? ⟨w.heap.size, j, none⟩ = some (.int .i64 M[j]) := by rw [hbk.out.cell]; simp [hjM]
              have hv := HM2.out _ (List.getElem_mem hjM)
              have hsn : Hid ((M.take (j + 1)).sum = (M.take j).sum + M[j]) := take_sum_snoc M j hjM
              generalize M[j] = v at *
              have ht0 := hsum.1
              generalize (M.take j).sum = t at *
              clear hsum
              go_wp2
              go_round
              case rel => exact ⟨j + 1, by omega, by go_num, by rw [hsn.out]⟩
              case measure => simp [intOf]; omega
            · have hfull : (M.take j).sum = l.length := by rw [List.take_of_length_le (by rw [HM.out]; omega), HM3.out]
              have hcat : (hMore (hOf (s.extract 0 p).data.toList) (s.extract p s.size).data.toList == hOf s.data.toList) = true := by
                rw [beq_iff_eq]
                unfold hOf
                rw [← hMore_append, cut_of s p hp']
              rw [hfull]
              have hp0 : (0 : Int) ≤ (p : Int) := by omega
              have hp1 : (p : Int) ≤ (s.size : Int) := by omega
              clear hsum hsum2 hfull
              have h7 : hMore 7 [] = 7 := rfl
              have hcat2 := hcat
              simp only [beq_iff_eq] at hcat2
              simp [ByteArray.data_extract] at hcat2
              have hw1 : IntKind.i64.wrap cut = cut := IntWalk.i64_in _ (by omega)
              have hw2 : IntKind.i64.wrap (1 + cut) = r := by rw [IntWalk.i64_in _ (by omega)]; exact HR.out
              go_wp2_with fail
              go_region_held3 (fun _ => True) (exact trivial) (first
                | (go_at_call 9; refine (hash_Of_any _ (by first | decide | (simp [ByteArray.size_extract, maxLen] <;> omega)) _).mono ?_; rintro e w2 ⟨rfl, hb2⟩)
                | (go_at_call 11; refine (hash_More_any _ _ (by first | decide | (simp [ByteArray.size_extract, maxLen] <;> omega)) _).mono ?_; rintro e w3 ⟨rfl, hb3⟩)
                | (go_at_call 8; refine (awake06 _).mono ?_; rintro e w4 ⟨rfl, hb4⟩))
              go_wp2
              go_ret
              refine ⟨rfl, ?_⟩
              repeat (first | exact hb.drew | (refine Below.step ?_ (by assumption)))
    · go_enter Try.func6, Try.ntmps6
      go_wp2_with fail
      refine (awake06 _).mono ?_; rintro e w4 ⟨rfl, hb'⟩
      go_wp2
      go_ret
      exact ⟨rfl, hb'⟩
  · go_enter Try.func6, Try.ntmps6
    go_wp2_with fail
    refine (awake06 _).mono ?_; rintro e w4 ⟨rfl, hb'⟩
    go_wp2
    go_ret
    exact ⟨rfl, hb'⟩
end Go.Proofs.Ytkdbcichckjpbaa
