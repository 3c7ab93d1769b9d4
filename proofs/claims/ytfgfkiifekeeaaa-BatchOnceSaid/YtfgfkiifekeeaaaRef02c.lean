/- The document's answers of layer 2: Count, Cut, Low. -/
import Derived.Test.YtfgfkiifekeeaaaRef02b
import Derived.Test.YtfgfkiifekeeaaaUw
namespace Go.Proofs.Ytfgfkiifekeeaaa
open Go.RowKit Go.Shelf
set_option linter.unusedSimpArgs false
set_option linter.unusedVariables false

theorem rest_list (s : ByteArray) (a : Nat) : (s.extract a s.size).data.toList = s.data.toList.drop a := by
  rw [ext_list, List.take_of_length_le (by rw [list_size]; exact Nat.le_refl _)]
theorem rest_size (s : ByteArray) (a : Nat) : (s.extract a s.size).size = s.size - a := by rw [← list_size, rest_list, List.length_drop, list_size]
theorem ext_all (s : ByteArray) : s.extract 0 s.size = s := by
  have h := rest_list s 0
  rw [List.drop_zero] at h
  have : strOf (s.extract 0 s.size).data.toList = strOf s.data.toList := by rw [h]
  exact this
theorem drop_ne (s : ByteArray) (a : Nat) (h : a < s.size) : s.data.toList.drop a ≠ [] := fun e => by
  have := congrArg List.length e
  rw [List.length_drop, list_size, List.length_nil] at this
  omega
set_option maxRecDepth 1000000 in
set_option maxHeartbeats 4000000 in
theorem ref02_Low_any (s : ByteArray) (hs : s.size ≤ 1000000) (w : World) : Calls Try.prog 65 #[.string s] w fun e w' => e = .returned (.string (lowS s)) ∧ Below w.heap.size w w' := by
  obtain ⟨i0, hi, hz0, hz1, hz2⟩ := info_parts info_u8
  have hback := fun w (l : List UInt8) cap g h => run_convert_bytes_back (P := Try.prog) w 76 9 5 ⟨g, 0, none⟩ cap l Try.underlying76 Try.underlying5 Try.underlying9 h
  have hnil := fun w => run_convert_bytes_nil (P := Try.prog) w 76 5 Try.underlying76 Try.underlying5 0 0 9 Try.underlying9
  have HB := hide hback
  have HL := hide hnil
  clear hback hnil
  go_enter Try.func65, Try.ntmps65
  go_wp2_with fail
  go_loopw [3, 4] (fun o i wr => ∃ k : Nat, k ≤ s.size ∧ i = .int .i64 k ∧ (k = 0 → o = .slice none 0 0) ∧ wr.ownsRow w.heap.size 5 1 o k (Lib.byteCells ((s.data.toList.take k).map uLow)) ∧ Below w.heap.size w wr) (fun _ i _ => s.size - (intOf i).toNat)
  case atStart => exact ⟨0, by omega, rfl, fun _ => rfl, World.ownsRow_nil .., Below.refl _ _⟩
  case round =>
    obtain ⟨k, hk, rfl, hko, hown, hb⟩ := hrel
    by_cases hlt : k < s.size
    · clear hko
      have hltI : (k : Int) < (s.size : Int) := by omega
      have hxe := take_snoc s k hlt
      have hxb := (s[k]'hlt).toNat_lt
      have hlx := uLow_toNat (s[k]'hlt)
      replace hlx := hide hlx
      replace hxe := hide hxe
      obtain ⟨A, c, rfl⟩ := own_form hown
      by_cases hu : 65 ≤ (s[k]'hlt).toNat ∧ (s[k]'hlt).toNat ≤ 90
      · have h1I : (65 : Int) ≤ ((s[k]'hlt).toNat : Int) := by omega
        have h2I : ((s[k]'hlt).toNat : Int) ≤ 90 := by omega
        go_wp2_with (at_builtin; refine wpList_app rfl (.tmp 24) (.tmp 26) 76 rfl w.heap.size 5 i0 _ 1 1 Try.underlying76 hi hz0 hz1 hz2 rfl (by omega) A k c (Lib.byteCells ((s.data.toList.take k).map uLow)) rfl (hown.alloc _) ⟨wr.heap.size, 0, none⟩ 1 1 [.int .u8 (((s[k]'hlt).toNat : Int) - 65 + 97)] rfl rfl (news_at (cs := [_])) (by simp [Value.oneCell']) (by unfold maxLen; omega) (by omega) (by have := hb.size; simp; omega) (by omega) ?_; intro g cap w3 hown3 hb3)
        go_roundw
        case rel =>
          refine ⟨k + 1, by omega, by simp, by omega, ?_, hb.trans (((Below.refl w.heap.size wr).alloc hb.size _).trans hb3)⟩
          rw [hxe.out, List.map_append, byteCells_append]
          have e : Lib.byteCells ([s[k]'hlt].map uLow) = [.int .u8 (((s[k]'hlt).toNat : Int) - 65 + 97)] := by
            show [Value.int .u8 ((uLow (s[k]'hlt)).toNat : Int)] = _
            rw [hlx.out, if_pos hu]; congr 2; omega
          rw [e]; exact hown3
        case measure => simp [intOf]; omega
      · have hlv := hide (hlx.out.trans (if_neg hu))
        by_cases h1 : 65 ≤ (s[k]'hlt).toNat
        · have h1I : (65 : Int) ≤ ((s[k]'hlt).toNat : Int) := by omega
          have h2I : (90 : Int) < ((s[k]'hlt).toNat : Int) := by omega
          go_wp2_with (at_builtin; refine wpList_app rfl (.tmp 24) (.tmp 26) 76 rfl w.heap.size 5 i0 _ 1 1 Try.underlying76 hi hz0 hz1 hz2 rfl (by omega) A k c (Lib.byteCells ((s.data.toList.take k).map uLow)) rfl (hown.alloc _) ⟨wr.heap.size, 0, none⟩ 1 1 [.int .u8 ((s[k]'hlt).toNat : Int)] rfl rfl (news_at (cs := [_])) (by simp [Value.oneCell']) (by unfold maxLen; omega) (by omega) (by have := hb.size; simp; omega) (by omega) ?_; intro g cap w3 hown3 hb3)
          go_roundw
          case rel =>
            refine ⟨k + 1, by omega, by simp, by omega, ?_, hb.trans (((Below.refl w.heap.size wr).alloc hb.size _).trans hb3)⟩
            rw [hxe.out, List.map_append, byteCells_append]
            have e : Lib.byteCells ([s[k]'hlt].map uLow) = [.int .u8 ((s[k]'hlt).toNat : Int)] := by
              show [Value.int .u8 ((uLow (s[k]'hlt)).toNat : Int)] = _
              rw [hlv.out]
            rw [e]; exact hown3
          case measure => simp [intOf]; omega
        · have h1I : ((s[k]'hlt).toNat : Int) < 65 := by omega
          go_wp2_with (at_builtin; refine wpList_app rfl (.tmp 24) (.tmp 26) 76 rfl w.heap.size 5 i0 _ 1 1 Try.underlying76 hi hz0 hz1 hz2 rfl (by omega) A k c (Lib.byteCells ((s.data.toList.take k).map uLow)) rfl (hown.alloc _) ⟨wr.heap.size, 0, none⟩ 1 1 [.int .u8 ((s[k]'hlt).toNat : Int)] rfl rfl (news_at (cs := [_])) (by simp [Value.oneCell']) (by unfold maxLen; omega) (by omega) (by have := hb.size; simp; omega) (by omega) ?_; intro g cap w3 hown3 hb3)
          go_roundw
          case rel =>
            refine ⟨k + 1, by omega, by simp, by omega, ?_, hb.trans (((Below.refl w.heap.size wr).alloc hb.size _).trans hb3)⟩
            rw [hxe.out, List.map_append, byteCells_append]
            have e : Lib.byteCells ([s[k]'hlt].map uLow) = [.int .u8 ((s[k]'hlt).toNat : Int)] := by
              show [Value.int .u8 ((uLow (s[k]'hlt)).toNat : Int)] = _
              rw [hlv.out]
            rw [e]; exact hown3
          case measure => simp [intOf]; omega
    · obtain rfl : k = s.size := by omega
      rw [List.take_of_length_le (by rw [list_size]; exact Nat.le_refl _)] at hown
      by_cases hz : s.size = 0
      · have hl : s.data.toList = [] := size_list0 s hz
        have hcb := HL.out wr
        obtain rfl := hko hz
        have hR : lowS s = ByteArray.empty := by unfold lowS; rw [hl]; rfl
        clear HB HL hown hl
        go_wp2_with fail
        go_ret
        exact ⟨by first | rfl | (rw [hR]; rfl), hb⟩
      · clear hko
        obtain ⟨g, c, rfl, hg⟩ := own_some hown (by omega)
        have hcb := HB.out wr (s.data.toList.map uLow) c g (by
          intro j hj
          have e : (⟨g, 0, none⟩ : Addr).add j = ⟨g, j, none⟩ := by unfold Addr.add; split <;> simp_all
          obtain ⟨ad, e2, _, hc⟩ := own_rd hown (fun e => hz (by have := congrArg List.length e; simp [Lib.byteCells, list_size] at this; rw [this]; rfl))
          injection e2 with e2
          subst e2
          rw [hc j _ (by unfold Lib.byteCells; rw [List.getElem?_map, List.getElem?_eq_getElem hj]; rfl)])
        rw [List.length_map, list_size] at hcb
        clear HB HL
        go_wp2_with fail
        go_ret
        exact ⟨rfl, hb⟩
end Go.Proofs.Ytfgfkiifekeeaaa
