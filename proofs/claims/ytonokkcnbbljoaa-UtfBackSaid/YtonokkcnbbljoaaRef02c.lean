/- The document's answers of layer 2: Count, Cut, Low. -/
import Derived.Test.YtonokkcnbbljoaaRef02b
import Derived.Test.YtonokkcnbbljoaaUal
namespace Go.Proofs.Ytonokkcnbbljoaa
open Go.RowKit Go.Shelf
set_option linter.unusedSimpArgs false
set_option linter.unusedVariables false

theorem rest_list (s : ByteArray) (a : Nat) : (s.extract a s.size).data.toList = s.data.toList.drop a := by
  rw [ext_list, List.take_of_length_le (by rw [list_size]; exact Nat.le_refl _)]
theorem rest_size (s : ByteArray) (a : Nat) : (s.extract a s.size).size = s.size - a := by rw [← list_size, rest_list, List.length_drop, list_size]
theorem ext_all (s : ByteArray) : s.extract 0 s.size = s := by
  have h := rest_list s 0
  rw [List.drop_zero] at h
  have : strOf (s.extract 0 s.size).data.toList = strOf s.data.toList := by rw [h]
  exact this
theorem drop_ne (s : ByteArray) (a : Nat) (h : a < s.size) : s.data.toList.drop a ≠ [] := fun e => by
  have := congrArg List.length e
  rw [List.length_drop, list_size, List.length_nil] at this
  omega
set_option maxRecDepth 1000000 in
set_option maxHeartbeats 4000000 in
theorem ref02_Count_any (s : ByteArray) (hs : s.size ≤ 1000000) (w : World) : Calls Try.prog 14 #[.string s] w fun e w' => e = .returned (.int .i64 (uScan s.data.toList).length) ∧ Below w.heap.size w w' := by
  have hl0 := uScan_len s.data.toList
  rw [list_size] at hl0
  obtain ⟨R, hR⟩ : ∃ R, R = (uScan s.data.toList).length := ⟨_, rfl⟩
  rw [← hR] at hl0 ⊢
  replace hR := hide hR
  go_enter Try.func14, Try.ntmps14
  go_wp2_with fail
  go_loopw [3, 4] (fun n a wr => ∃ k c : Nat, k ≤ s.size ∧ a = .int .i64 k ∧ n = .int .i64 c ∧ c + (uScan (s.data.toList.drop k)).length = R ∧ Below w.heap.size w wr) (fun _ a _ => s.size - (intOf a).toNat)
  case atStart => exact ⟨0, 0, by omega, rfl, rfl, by rw [List.drop_zero, hR.out]; omega, Below.refl _ _⟩
  case round =>
    obtain ⟨k, c, hk, rfl, rfl, hc, hb⟩ := hrel
    by_cases hlt : k < s.size
    · have hltI : (k : Int) < (s.size : Int) := by omega
      have hne := drop_ne s k hlt
      have hsc := uScan_cons _ hne
      have hz := uNext_size (s.data.toList.drop k)
      rw [List.length_drop, list_size] at hz
      have hnx := fun W => ref02_Next_any (s.extract k s.size) (by rw [rest_size]; unfold maxLen; omega) W
      rw [rest_list] at hnx
      have h1 := hz.2.1 hne
      rw [List.drop_drop] at hsc
      rw [hsc, List.length_cons] at hc
      have HC := hide hc
      have hcs : c < 1000000 := by omega
      clear hc hsc hne
      generalize uNext (s.data.toList.drop k) = p at *
      obtain ⟨v, m⟩ := p
      (try dsimp only at *)
      have h1I : (1 : Int) ≤ (m : Int) := by omega
      have hmx : (if (m : Int) < 1 then (1 : Int) else m) = m := if_neg (by omega)
      go_wp2_with fail
      refine (hnx _).mono ?_; rintro e w2 ⟨rfl, hb2⟩
      go_wp2_with fail
      go_roundw
      case rel => exact ⟨k + m, c + 1, by omega, by simp; omega, by simp, by have := HC.out; omega, hb.step hb2⟩
      case measure => simp [intOf]; omega
    · obtain rfl : k = s.size := by omega
      rw [List.drop_eq_nil_of_le (by rw [list_size]; exact Nat.le_refl _), uScan_nil] at hc
      go_wp2_with fail
      go_ret
      exact ⟨by rw [← hc]; rfl, hb⟩
set_option maxRecDepth 1000000 in
set_option maxHeartbeats 4000000 in
theorem ref02_Cut_any (s : ByteArray) (hs : s.size ≤ 1000000) (most : Int) (hm : -9223372036854775808 ≤ most ∧ most ≤ 9223372036854775807) (w : World) : Calls Try.prog 18 #[.string s, .int .i64 most] w fun e w' => e = .returned (.string (s.extract 0 (uCut s.data.toList most))) ∧ Below w.heap.size w w' := by
  obtain ⟨q, hq⟩ : ∃ q, q = uCut s.data.toList most := ⟨_, rfl⟩
  have hl1 := uCut_len s.data.toList most
  rw [← hq, list_size] at hl1
  rw [← hq]
  replace hq := hide hq
  go_enter Try.func18, Try.ntmps18
  go_wp2_with fail
  go_loopw [5] (fun a wr => ∃ k : Nat, k ≤ s.size ∧ a = .int .i64 k ∧ (0 < k → (k : Int) ≤ most) ∧ k + uCut (s.data.toList.drop k) (most - k) = q ∧ Below w.heap.size w wr) (fun a _ => s.size - (intOf a).toNat)
  case atStart => exact ⟨0, by omega, rfl, by omega, by rw [List.drop_zero, hq.out]; simp, Below.refl _ _⟩
  case round =>
    obtain ⟨k, hk, rfl, hkm, hc, hb⟩ := hrel
    have hw1 : -9223372036854775808 ≤ most - (k : Int) ∧ most - (k : Int) ≤ 9223372036854775807 := by
      rcases Nat.eq_zero_or_pos k with h | h
      · subst h; simpa using hm
      · have := hkm h; omega
    by_cases hlt : k < s.size
    · have hltI : (k : Int) < (s.size : Int) := by omega
      have hne := drop_ne s k hlt
      have hsc := uCut_cons _ hne (most - k)
      have hz := uNext_size (s.data.toList.drop k)
      rw [List.length_drop, list_size] at hz
      have hnx := fun W => ref02_Next_any (s.extract k s.size) (by rw [rest_size]; unfold maxLen; omega) W
      rw [rest_list] at hnx
      have h1 := hz.2.1 hne
      rw [List.drop_drop] at hsc
      have HS := hide hsc
      have HC := hide hc
      clear hc hsc hne
      generalize uNext (s.data.toList.drop k) = p at *
      obtain ⟨v, m⟩ := p
      replace HS := hide (show uCut (s.data.toList.drop k) (most - k) = if most - k < (m : Int) then 0 else m + uCut (s.data.toList.drop (k + m)) (most - k - m) from HS)
      (try dsimp only at *)
      have h1I : (1 : Int) ≤ (m : Int) := by omega
      have hmx : (if (m : Int) < 1 then (1 : Int) else m) = m := if_neg (by omega)
      have hw2 : IntKind.i64.wrap (most - (k : Int)) = most - k := IntWalk.i64_in _ hw1
      have hw2b : wrap64 (most - (k : Int)) = most - k := IntWalk.wrap64_in _ hw1
      by_cases hfit : most - (k : Int) < (m : Int)
      · have hqk := HC.out
        rw [HS.out, if_pos hfit] at hqk
        obtain rfl : q = k := by omega
        clear hqk HC HS
        go_wp2_with fail
        refine (hnx _).mono ?_; rintro e w2 ⟨rfl, hb2⟩
        go_wp2_with fail
        go_ret
        exact ⟨rfl, hb.step hb2⟩
      · have hfit2 : (m : Int) ≤ most - (k : Int) := by omega
        have hqk := HC.out
        rw [HS.out, if_neg hfit] at hqk
        have HQ := hide hqk
        clear hqk HC HS hfit
        go_wp2_with fail
        refine (hnx _).mono ?_; rintro e w2 ⟨rfl, hb2⟩
        go_wp2_with fail
        go_roundw
        case rel => exact ⟨k + m, by omega, by simp; omega, fun _ => by omega, cut_step _ k m q most HQ.out, hb.step hb2⟩
        case measure => simp [intOf]; omega
    · obtain rfl : k = s.size := by omega
      rw [List.drop_eq_nil_of_le (by rw [list_size]; exact Nat.le_refl _), uCut_nil] at hc
      obtain rfl : q = s.size := by omega
      clear hc
      go_wp2_with fail
      go_ret
      exact ⟨by rw [show s.extract 0 s.size = s from ext_all s]; rfl, hb⟩
set_option maxRecDepth 1000000 in
set_option maxHeartbeats 4000000 in
theorem ref02_Low_any (s : ByteArray) (hs : s.size ≤ 1000000) (w : World) : Calls Try.prog 20 #[.string s] w fun e w' => e = .returned (.string (lowS s)) ∧ Below w.heap.size w w' := by
  obtain ⟨i0, hi, hz0, hz1, hz2⟩ := info_parts info_u8
  have hback := fun w (l : List UInt8) cap g h => run_convert_bytes_back (P := Try.prog) w 53 9 5 ⟨g, 0, none⟩ cap l Try.underlying53 Try.underlying5 Try.underlying9 h
  have hnil := fun w => run_convert_bytes_nil (P := Try.prog) w 53 5 Try.underlying53 Try.underlying5 0 0 9 Try.underlying9
  have HB := hide hback
  have HL := hide hnil
  clear hback hnil
  go_enter Try.func20, Try.ntmps20
  go_wp2_with fail
  go_loopw [3, 4] (fun o i wr => ∃ k : Nat, k ≤ s.size ∧ i = .int .i64 k ∧ (k = 0 → o = .slice none 0 0) ∧ wr.ownsRow w.heap.size 5 1 o k (Lib.byteCells ((s.data.toList.take k).map uLow)) ∧ Below w.heap.size w wr) (fun _ i _ => s.size - (intOf i).toNat)
  case atStart => exact ⟨0, by omega, rfl, fun _ => rfl, World.ownsRow_nil .., Below.refl _ _⟩
  case round =>
    obtain ⟨k, hk, rfl, hko, hown, hb⟩ := hrel
    by_cases hlt : k < s.size
    · clear hko
      have hltI : (k : Int) < (s.size : Int) := by omega
      have hxe := take_snoc s k hlt
      have hxb := (s[k]'hlt).toNat_lt
      have hlx := uLow_toNat (s[k]'hlt)
      replace hlx := hide hlx
      replace hxe := hide hxe
      obtain ⟨A, c, rfl⟩ := own_form hown
      by_cases hu : 65 ≤ (s[k]'hlt).toNat ∧ (s[k]'hlt).toNat ≤ 90
      · have h1I : (65 : Int) ≤ ((s[k]'hlt).toNat : Int) := by omega
        have h2I : ((s[k]'hlt).toNat : Int) ≤ 90 := by omega
        go_wp2_with (at_builtin; refine wpList_app rfl (.tmp 24) (.tmp 26) 53 rfl w.heap.size 5 i0 _ 1 1 Try.underlying53 hi hz0 hz1 hz2 rfl (by omega) A k c (Lib.byteCells ((s.data.toList.take k).map uLow)) rfl (hown.alloc _) ⟨wr.heap.size, 0, none⟩ 1 1 [.int .u8 (((s[k]'hlt).toNat : Int) - 65 + 97)] rfl rfl (news_at (cs := [_])) (by simp [Value.oneCell']) (by unfold maxLen; omega) (by omega) (by have := hb.size; simp; omega) (by omega) ?_; intro g cap w3 hown3 hb3)
        go_roundw
        case rel =>
          refine ⟨k + 1, by omega, by simp, by omega, ?_, hb.trans (((Below.refl w.heap.size wr).alloc hb.size _).trans hb3)⟩
          rw [hxe.out, List.map_append, byteCells_append]
          have e : Lib.byteCells ([s[k]'hlt].map uLow) = [.int .u8 (((s[k]'hlt).toNat : Int) - 65 + 97)] := by
            show [Value.int .u8 ((uLow (s[k]'hlt)).toNat : Int)] = _
            rw [hlx.out, if_pos hu]; congr 2; omega
          rw [e]; exact hown3
        case measure => simp [intOf]; omega
      · have hlv := hide (hlx.out.trans (if_neg hu))
        by_cases h1 : 65 ≤ (s[k]'hlt).toNat
        · have h1I : (65 : Int) ≤ ((s[k]'hlt).toNat : Int) := by omega
          have h2I : (90 : Int) < ((s[k]'hlt).toNat : Int) := by omega
          go_wp2_with (at_builtin; refine wpList_app rfl (.tmp 24) (.tmp 26) 53 rfl w.heap.size 5 i0 _ 1 1 Try.underlying53 hi hz0 hz1 hz2 rfl (by omega) A k c (Lib.byteCells ((s.data.toList.take k).map uLow)) rfl (hown.alloc _) ⟨wr.heap.size, 0, none⟩ 1 1 [.int .u8 ((s[k]'hlt).toNat : Int)] rfl rfl (news_at (cs := [_])) (by simp [Value.oneCell']) (by unfold maxLen; omega) (by omega) (by have := hb.size; simp; omega) (by omega) ?_; intro g cap w3 hown3 hb3)
          go_roundw
          case rel =>
            refine ⟨k + 1, by omega, by simp, by omega, ?_, hb.trans (((Below.refl w.heap.size wr).alloc hb.size _).trans hb3)⟩
            rw [hxe.out, List.map_append, byteCells_append]
            have e : Lib.byteCells ([s[k]'hlt].map uLow) = [.int .u8 ((s[k]'hlt).toNat : Int)] := by
              show [Value.int .u8 ((uLow (s[k]'hlt)).toNat : Int)] = _
              rw [hlv.out]
            rw [e]; exact hown3
          case measure => simp [intOf]; omega
        · have h1I : ((s[k]'hlt).toNat : Int) < 65 := by omega
          go_wp2_with (at_builtin; refine wpList_app rfl (.tmp 24) (.tmp 26) 53 rfl w.heap.size 5 i0 _ 1 1 Try.underlying53 hi hz0 hz1 hz2 rfl (by omega) A k c (Lib.byteCells ((s.data.toList.take k).map uLow)) rfl (hown.alloc _) ⟨wr.heap.size, 0, none⟩ 1 1 [.int .u8 ((s[k]'hlt).toNat : Int)] rfl rfl (news_at (cs := [_])) (by simp [Value.oneCell']) (by unfold maxLen; omega) (by omega) (by have := hb.size; simp; omega) (by omega) ?_; intro g cap w3 hown3 hb3)
          go_roundw
          case rel =>
            refine ⟨k + 1, by omega, by simp, by omega, ?_, hb.trans (((Below.refl w.heap.size wr).alloc hb.size _).trans hb3)⟩
            rw [hxe.out, List.map_append, byteCells_append]
            have e : Lib.byteCells ([s[k]'hlt].map uLow) = [.int .u8 ((s[k]'hlt).toNat : Int)] := by
              show [Value.int .u8 ((uLow (s[k]'hlt)).toNat : Int)] = _
              rw [hlv.out]
            rw [e]; exact hown3
          case measure => simp [intOf]; omega
    · obtain rfl : k = s.size := by omega
      rw [List.take_of_length_le (by rw [list_size]; exact Nat.le_refl _)] at hown
      by_cases hz : s.size = 0
      · have hl : s.data.toList = [] := size_list0 s hz
        have hcb := HL.out wr
        obtain rfl := hko hz
        have hR : lowS s = ByteArray.empty := by unfold lowS; rw [hl]; rfl
        clear HB HL hown hl
        go_wp2_with fail
        go_ret
        exact ⟨by first | rfl | (rw [hR]; rfl), hb⟩
      · clear hko
        obtain ⟨g, c, rfl, hg⟩ := own_some hown (by omega)
        have hcb := HB.out wr (s.data.toList.map uLow) c g (by
          intro j hj
          have e : (⟨g, 0, none⟩ : Addr).add j = ⟨g, j, none⟩ := by unfold Addr.add; split <;> simp_all
          obtain ⟨ad, e2, _, hc⟩ := own_rd hown (fun e => hz (by have := congrArg List.length e; simp [Lib.byteCells, list_size] at this; rw [this]; rfl))
          injection e2 with e2
          subst e2
          rw [hc j _ (by unfold Lib.byteCells; rw [List.getElem?_map, List.getElem?_eq_getElem hj]; rfl)])
        rw [List.length_map, list_size] at hcb
        clear HB HL
        go_wp2_with fail
        go_ret
        exact ⟨rfl, hb⟩
end Go.Proofs.Ytonokkcnbbljoaa
