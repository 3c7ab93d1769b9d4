/- The reference of package config: key, begins, number. -/
import Derived.Test.YtfbllioegeadfaaDoorCf5
namespace Go.Proofs.YtfbllioegeadfaaDoor
open Go.RowKit
set_option linter.unusedSimpArgs false
set_option linter.unusedVariables false

set_option maxRecDepth 100000 in
set_option maxHeartbeats 4000000 in
theorem r32_key_any (s : Nat) (hs : s < 12) (w : World) : Calls Tryd.prog 31 #[.int .i64 s] w fun e w' => e = .returned (.tuple #[.string (keyB s), .int .i64 (cntN s)]) ∧ w = w' := by
  match s, hs with
  | 0, _ =>
    go_enter Tryd.func31, Tryd.ntmps31
    rw [show (((0 : Nat)) : Int) = 0 from rfl]
    go_wp2
    exact bodyPost_ret (v := .tuple #[.string (keyB 0), .int .i64 (cntN 0)]) (by simp only [results, Tryd.results31]; go_simp; exact ⟨rfl, rfl⟩) rfl ⟨rfl, rfl⟩
  | 1, _ =>
    go_enter Tryd.func31, Tryd.ntmps31
    rw [show (((1 : Nat)) : Int) = 1 from rfl]
    go_wp2
    exact bodyPost_ret (v := .tuple #[.string (keyB 1), .int .i64 (cntN 1)]) (by simp only [results, Tryd.results31]; go_simp; exact ⟨rfl, rfl⟩) rfl ⟨rfl, rfl⟩
  | 2, _ =>
    go_enter Tryd.func31, Tryd.ntmps31
    rw [show (((2 : Nat)) : Int) = 2 from rfl]
    go_wp2
    exact bodyPost_ret (v := .tuple #[.string (keyB 2), .int .i64 (cntN 2)]) (by simp only [results, Tryd.results31]; go_simp; exact ⟨rfl, rfl⟩) rfl ⟨rfl, rfl⟩
  | 3, _ =>
    go_enter Tryd.func31, Tryd.ntmps31
    rw [show (((3 : Nat)) : Int) = 3 from rfl]
    go_wp2
    exact bodyPost_ret (v := .tuple #[.string (keyB 3), .int .i64 (cntN 3)]) (by simp only [results, Tryd.results31]; go_simp; exact ⟨rfl, rfl⟩) rfl ⟨rfl, rfl⟩
  | 4, _ =>
    go_enter Tryd.func31, Tryd.ntmps31
    rw [show (((4 : Nat)) : Int) = 4 from rfl]
    go_wp2
    exact bodyPost_ret (v := .tuple #[.string (keyB 4), .int .i64 (cntN 4)]) (by simp only [results, Tryd.results31]; go_simp; exact ⟨rfl, rfl⟩) rfl ⟨rfl, rfl⟩
  | 5, _ =>
    go_enter Tryd.func31, Tryd.ntmps31
    rw [show (((5 : Nat)) : Int) = 5 from rfl]
    go_wp2
    exact bodyPost_ret (v := .tuple #[.string (keyB 5), .int .i64 (cntN 5)]) (by simp only [results, Tryd.results31]; go_simp; exact ⟨rfl, rfl⟩) rfl ⟨rfl, rfl⟩
  | 6, _ =>
    go_enter Tryd.func31, Tryd.ntmps31
    rw [show (((6 : Nat)) : Int) = 6 from rfl]
    go_wp2
    exact bodyPost_ret (v := .tuple #[.string (keyB 6), .int .i64 (cntN 6)]) (by simp only [results, Tryd.results31]; go_simp; exact ⟨rfl, rfl⟩) rfl ⟨rfl, rfl⟩
  | 7, _ =>
    go_enter Tryd.func31, Tryd.ntmps31
    rw [show (((7 : Nat)) : Int) = 7 from rfl]
    go_wp2
    exact bodyPost_ret (v := .tuple #[.string (keyB 7), .int .i64 (cntN 7)]) (by simp only [results, Tryd.results31]; go_simp; exact ⟨rfl, rfl⟩) rfl ⟨rfl, rfl⟩
  | 8, _ =>
    go_enter Tryd.func31, Tryd.ntmps31
    rw [show (((8 : Nat)) : Int) = 8 from rfl]
    go_wp2
    exact bodyPost_ret (v := .tuple #[.string (keyB 8), .int .i64 (cntN 8)]) (by simp only [results, Tryd.results31]; go_simp; exact ⟨rfl, rfl⟩) rfl ⟨rfl, rfl⟩
  | 9, _ =>
    go_enter Tryd.func31, Tryd.ntmps31
    rw [show (((9 : Nat)) : Int) = 9 from rfl]
    go_wp2
    exact bodyPost_ret (v := .tuple #[.string (keyB 9), .int .i64 (cntN 9)]) (by simp only [results, Tryd.results31]; go_simp; exact ⟨rfl, rfl⟩) rfl ⟨rfl, rfl⟩
  | 10, _ =>
    go_enter Tryd.func31, Tryd.ntmps31
    rw [show (((10 : Nat)) : Int) = 10 from rfl]
    go_wp2
    exact bodyPost_ret (v := .tuple #[.string (keyB 10), .int .i64 (cntN 10)]) (by simp only [results, Tryd.results31]; go_simp; exact ⟨rfl, rfl⟩) rfl ⟨rfl, rfl⟩
  | 11, _ =>
    go_enter Tryd.func31, Tryd.ntmps31
    rw [show (((11 : Nat)) : Int) = 11 from rfl]
    go_wp2
    exact bodyPost_ret (v := .tuple #[.string (keyB 11), .int .i64 (cntN 11)]) (by simp only [results, Tryd.results31]; go_simp; exact ⟨rfl, rfl⟩) rfl ⟨rfl, rfl⟩
theorem ext_list (s : ByteArray) (a b : Nat) : (s.extract a b).data.toList = (s.data.toList.take b).drop a := by
  rw [ByteArray.data_extract, Array.toList_extract, List.extract_eq_drop_take', List.drop_take]
/-- the prefix ahead of number j of field i -/
def pxB (i j : Nat) : ByteArray := if 0 < j then ⟨#[44]⟩ else if 0 < i then ⟨#[59]⟩ ++ (keyB i ++ ⟨#[61]⟩) else keyB i ++ ⟨#[61]⟩
set_option maxRecDepth 100000 in
set_option maxHeartbeats 4000000 in
theorem r32_begins_any (s k : ByteArray) (a : Nat) (ha : a ≤ s.size) (hs : s.size ≤ 400) (hk : k.size ≤ 400) (w : World) : Calls Tryd.prog 32 #[.string s, .int .i64 a, .string k] w fun e w' => e = .returned (.bool (k.data.toList.isPrefixOf (s.data.toList.drop a))) ∧ w = w' := by
  have hd : (s.data.toList.drop a).length = s.size - a := by rw [List.length_drop, list_size]
  have hkl := list_size k
  by_cases h1 : k.size ≤ s.size - a
  case neg =>
    have hR : Hid (k.data.toList.isPrefixOf (s.data.toList.drop a) = false) := by
      refine Bool.eq_false_iff.2 fun h => ?_
      have := (List.isPrefixOf_iff_prefix.1 h).length_le
      omega
    have h2 : (s.size : Int) - (a : Int) < (k.size : Int) := by omega
    have e1 := IntWalk.i64_in ((s.size : Int) - (a : Int)) (by omega)
    go_enter Tryd.func32, Tryd.ntmps32
    go_wp2
    go_ret
    exact ⟨by rw [hR.out]; rfl, rfl⟩
  have h2 : (k.size : Int) ≤ (s.size : Int) - (a : Int) := by omega
  have e1 := IntWalk.i64_in ((s.size : Int) - (a : Int)) (by omega)
  have e2 := IntWalk.i64_in ((a : Int) + (k.size : Int)) (by omega)
  have hb1 : (a : Int) ≤ (a : Int) + (k.size : Int) := by omega
  have hb2 : (a : Int) + (k.size : Int) ≤ (s.size : Int) := by omega
  go_enter Tryd.func32, Tryd.ntmps32
  have hR : Hid (((s.extract a (a + k.size)).toList == k.toList) = k.data.toList.isPrefixOf (s.data.toList.drop a)) := by
    show _ = _
    rw [ByteArray.toList_eq, ByteArray.toList_eq, ext_list]
    have e0 : (s.data.toList.take (a + k.size)).drop a = (s.data.toList.drop a).take k.size := by
      rw [List.drop_take]; congr 1; omega
    rw [e0, Bool.eq_iff_iff, beq_iff_eq, List.isPrefixOf_iff_prefix, List.prefix_iff_eq_take, hkl]
    exact eq_comm
  go_wp2
  go_ret
  exact ⟨by rw [← hR.out]; rfl, rfl⟩
end Go.Proofs.YtfbllioegeadfaaDoor
