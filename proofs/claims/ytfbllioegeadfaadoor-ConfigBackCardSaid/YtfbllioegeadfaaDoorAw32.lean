/- The law of package config: what every right program is made by (awake). -/
import Derived.Test.YtfbllioegeadfaaDoorCf7
import Derived.Test.YtfbllioegeadfaaDoorCf9
namespace Go.Proofs.YtfbllioegeadfaaDoor
open Go.RowKit
set_option linter.unusedSimpArgs false
set_option linter.unusedVariables false

def sU : ByteArray := ⟨#[99, 101, 108, 108, 115, 61, 50, 48, 48, 48, 59, 113, 117, 97, 110, 116, 117, 109, 61, 50, 53, 54, 59, 116, 111, 116, 97, 108, 61, 52, 48, 57, 54, 59, 98, 97, 116, 99, 104, 61, 56, 59, 99, 114, 101, 100, 105, 116, 61, 53, 49, 50, 59, 97, 108, 108, 61, 56, 44, 50, 59, 101, 97, 99, 104, 61, 51, 44, 49, 59, 117, 112, 61, 53, 48, 44, 55, 53, 44, 57, 48, 59, 100, 111, 119, 110, 61, 52, 48, 44, 54, 48, 44, 56, 48, 59, 104, 111, 108, 100, 61, 53, 59, 108, 111, 61, 49, 44, 53, 44, 50, 48, 44, 54, 48, 59, 104, 105, 61, 52, 44, 50, 48, 44, 54, 48, 44, 50, 52, 48]⟩
def sV : ByteArray := ⟨#[99, 101, 108, 108, 115, 61, 50, 48, 48, 48, 59, 113, 117, 97, 110, 116, 117, 109, 61, 50, 53, 54, 59, 116, 111, 116, 97, 108, 61, 52, 48, 57, 54, 59, 98, 97, 116, 99, 104, 61, 56, 59, 99, 114, 101, 100, 105, 116, 61, 53, 49, 50, 59, 97, 108, 108, 61, 56, 44, 50, 59, 101, 97, 99, 104, 61, 51, 44, 49, 59, 117, 112, 61, 53, 48, 44, 55, 53, 44, 57, 48, 59, 100, 111, 119, 110, 61, 52, 48, 44, 54, 48, 44, 56, 48, 59, 104, 111, 108, 100, 61, 53, 59, 108, 111, 61, 49, 44, 53, 44, 50, 48, 44, 54, 48, 59, 104, 105, 61, 52, 44, 50, 48, 44, 54, 48, 44, 50, 52, 48, 59]⟩
set_option maxRecDepth 100000 in
theorem sU_read : oRead cFd (spl 59 sU.data.toList) = some (rowL uCC) := by kernel_rfl
set_option maxRecDepth 100000 in
theorem sU_print : cPrint uCC = (sU.data.toList, 0) := by
  have h := sU_read
  rw [own_ref cFd_ok] at h
  unfold cPrint
  rw [uCC_check, if_pos rfl, ← (read_text h).1]
theorem sU_parse : cParse sU.data.toList = (ofL (rowL uCC), 0) := by
  unfold cParse
  rw [sU_read]
  dsimp only
  rw [if_pos (show cCheck (ofL (rowL uCC)) = 0 by kernel_rfl)]
set_option maxRecDepth 100000 in
theorem sV_parse : cParse sV.data.toList = (zCC, 4) := by kernel_rfl
theorem sU_list : sU.toList = [99, 101, 108, 108, 115, 61, 50, 48, 48, 48, 59, 113, 117, 97, 110, 116, 117, 109, 61, 50, 53, 54, 59, 116, 111, 116, 97, 108, 61, 52, 48, 57, 54, 59, 98, 97, 116, 99, 104, 61, 56, 59, 99, 114, 101, 100, 105, 116, 61, 53, 49, 50, 59, 97, 108, 108, 61, 56, 44, 50, 59, 101, 97, 99, 104, 61, 51, 44, 49, 59, 117, 112, 61, 53, 48, 44, 55, 53, 44, 57, 48, 59, 100, 111, 119, 110, 61, 52, 48, 44, 54, 48, 44, 56, 48, 59, 104, 111, 108, 100, 61, 53, 59, 108, 111, 61, 49, 44, 53, 44, 50, 48, 44, 54, 48, 59, 104, 105, 61, 52, 44, 50, 48, 44, 54, 48, 44, 50, 52, 48] := by rw [ByteArray.toList_eq]; rfl
theorem sU_size : sU.size ≤ 400 := Nat.le_of_ble_eq_true (by kernel_rfl)
theorem sV_size : sV.size ≤ 400 := Nat.le_of_ble_eq_true (by kernel_rfl)
theorem sV_of : sU ++ (⟨#[59]⟩ : ByteArray) = sV := by kernel_rfl
theorem zCC_print : cPrint zCC = ([], 8) := by kernel_rfl
theorem uCC_same : cSame uCC (ofL (rowL uCC)) = true := by rw [cSame_iff, rowL_of _ rfl]
theorem uCC_zero : cSame uCC zCC = false := by kernel_rfl
def aCC : CC := ⟨aUsual, 0, 0, 0, 0, 0⟩
theorem aCC_check : cCheck aCC = 8 := by kernel_rfl
theorem usual_uCC (w : World) : Calls Tryd.prog 13 #[] w fun e w' => e = .returned uCC.V ∧ Below w.heap.size w w' := config_Usual_any w
theorem print_uCC (w : World) (hg : GW w) : Calls Tryd.prog 10 #[uCC.V] w fun e w' => e = .returned (.tuple #[.string sU, .int .i64 0]) ∧ Below w.heap.size w w' := by
  have h := config_Print_any uCC w hg
  rw [sU_print] at h
  exact h
theorem print_zCC (w : World) (hg : GW w) : Calls Tryd.prog 10 #[zCC.V] w fun e w' => e = .returned (.tuple #[.string ⟨#[]⟩, .int .i64 8]) ∧ Below w.heap.size w w' := by
  have h := config_Print_any zCC w hg
  rw [zCC_print] at h
  exact h
def dCC : CC := ofL (rowL uCC)
theorem parse_sU (w : World) (hg : GW w) : Calls Tryd.prog 6 #[.string sU] w fun e w' => e = .returned (.tuple #[dCC.V, .int .i64 0]) ∧ Below w.heap.size w w' := by
  have h := config_Parse_any sU sU_size w hg
  rw [sU_parse] at h
  exact h
theorem parse_sV (w : World) (hg : GW w) : Calls Tryd.prog 6 #[.string sV] w fun e w' => e = .returned (.tuple #[zCC.V, .int .i64 4]) ∧ Below w.heap.size w w' := by
  have h := config_Parse_any sV sV_size w hg
  rw [sV_parse] at h
  exact h
theorem same_uCC (w : World) : Calls Tryd.prog 11 #[uCC.V, dCC.V] w fun e w' => e = .returned (.bool true) ∧ Below w.heap.size w w' := by
  have h := config_Same_any uCC dCC w
  rw [show cSame uCC dCC = true from uCC_same] at h
  exact h
theorem same_zCC (w : World) : Calls Tryd.prog 11 #[uCC.V, zCC.V] w fun e w' => e = .returned (.bool false) ∧ Below w.heap.size w w' := by
  have h := config_Same_any uCC zCC w
  rw [uCC_zero] at h
  exact h
theorem check_aCC (w : World) : Calls Tryd.prog 12 #[aCC.V] w fun e w' => e = .returned (.int .i64 8) ∧ Below w.heap.size w w' := by
  have h := config_Check_any aCC w
  rw [aCC_check] at h
  exact h
set_option maxRecDepth 100000 in
set_option maxHeartbeats 16000000 in
theorem awake_any (w : World) (hg : GW w) : Calls Tryd.prog 5 #[] w fun e w' => e = .returned (.bool true) ∧ Below w.heap.size w w' := by
  go_enter Tryd.func5, Tryd.ntmps5
  go_wp2_with fail
  refine (usual_uCC _).mono ?_; rintro e w1 ⟨rfl, hx⟩
  replace hg := hg.step hx
  have hb := hx
  clear hx
  go_upto_region 2 with (first | (refine wpList_store_row rfl 34 _ _ rfl _ (uCC.C).toArray rfl rfl _ _ (Bk.new _ _ _) (by kernel_rfl) (by kernel_rfl) (by kernel_rfl) ?_) | fail)
  generalize hV : World.setRow _ _ _ = w2
  have hx : Below w1.heap.size w1 w2 := by subst hV; exact setRow_below ((Below.refl _ _).alloc1 _) (Nat.le_refl _) _
  have k1 : Bk w2 w1.heap.size 34 uCC.C := by subst hV; exact (Bk.new w1 _ _).row _
  clear hV
  replace hg := hg.step hx
  replace hb := hb.step hx
  clear hx
  go_wp2_with (first | (refine wpList_load_row rfl 34 _ rfl _ rfl _ _ (0, 0) _ k1 Tryd.underlying34 rfl (by kernel_rfl) ?_) | fail)
  refine (print_uCC _ hg).mono ?_; rintro e w3 ⟨rfl, hx⟩
  replace hg := hg.step hx
  replace hb := hb.step hx
  replace k1 := k1.step hx
  clear hx
  go_wp2_with fail
  refine (parse_sU _ hg).mono ?_; rintro e w4 ⟨rfl, hx⟩
  replace hg := hg.step hx
  replace hb := hb.step hx
  replace k1 := k1.step hx
  clear hx
  go_wp2_with (first | (refine wpList_store_row rfl 34 _ _ rfl _ (dCC.C).toArray rfl rfl _ _ (Bk.new _ _ _) (by kernel_rfl) (by kernel_rfl) (by kernel_rfl) ?_) | fail)
  generalize hV : World.setRow _ _ _ = w5
  have hx : Below w4.heap.size w4 w5 := by subst hV; exact setRow_below ((Below.refl _ _).alloc1 _) (Nat.le_refl _) _
  have k2 : Bk w5 w4.heap.size 34 dCC.C := by subst hV; exact (Bk.new w4 _ _).row _
  clear hV
  replace hg := hg.step hx
  replace hb := hb.step hx
  replace k1 := k1.step hx
  clear hx
  rw [sV_of]
  refine (parse_sV _ hg).mono ?_; rintro e w6 ⟨rfl, hx⟩
  replace hg := hg.step hx
  replace hb := hb.step hx
  replace k1 := k1.step hx
  replace k2 := k2.step hx
  clear hx
  go_wp2_with (first | (refine wpList_store_row rfl 34 _ _ rfl _ (zCC.C).toArray rfl rfl _ _ (Bk.new _ _ _) (by kernel_rfl) (by kernel_rfl) (by kernel_rfl) ?_) | fail)
  generalize hV : World.setRow _ _ _ = w7
  have hx : Below w6.heap.size w6 w7 := by subst hV; exact setRow_below ((Below.refl _ _).alloc1 _) (Nat.le_refl _) _
  clear hV
  replace hg := hg.step hx
  replace hb := hb.step hx
  replace k1 := k1.step hx
  replace k2 := k2.step hx
  clear hx
  refine (print_zCC _ hg).mono ?_; rintro e w8 ⟨rfl, hx⟩
  replace hg := hg.step hx
  replace hb := hb.step hx
  replace k1 := k1.step hx
  replace k2 := k2.step hx
  clear hx
  have hlit := sU_list
  go_wp2_with (first | (refine wpList_loadG 34 _ rfl _ rfl _ _ (0, 0) _ k1 Tryd.underlying34 rfl (by kernel_rfl) (by kernel_rfl) ?_) | (refine wpList_loadG 34 _ rfl _ rfl _ _ (0, 0) _ k2 Tryd.underlying34 rfl (by kernel_rfl) (by kernel_rfl) ?_) | fail)
  refine (same_uCC _).mono ?_; rintro e x0 ⟨rfl, hx⟩
  replace hb := hb.step hx
  replace k1 := k1.step hx
  replace k2 := k2.step hx
  clear hx
  go_wp2_with (first | (refine wpList_loadG 34 _ rfl _ rfl _ _ (0, 0) _ k1 Tryd.underlying34 rfl (by kernel_rfl) (by kernel_rfl) ?_) | (refine wpList_loadG 34 _ rfl _ rfl _ _ (0, 0) _ k2 Tryd.underlying34 rfl (by kernel_rfl) (by kernel_rfl) ?_) | (refine wpList_load_sub 32 _ rfl _ 0 rfl _ _ k1 (acC 8 2 3 1 (u3 50 75 90) (u3 40 60 80) 5 uLo uHi) rfl _ Tryd.underlying32 rfl (by kernel_rfl) (by kernel_rfl) ?_) | (refine wpList_buildG 34 _ rfl (aCC.C).toArray (by kernel_rfl) (by kernel_rfl) ?_) | fail)
  refine (config_Rounds_u1 _).mono ?_; rintro e x1 ⟨rfl, hx⟩
  replace hb := hb.step hx
  replace k1 := k1.step hx
  replace k2 := k2.step hx
  clear hx
  go_wp2_with (first | (refine wpList_loadG 34 _ rfl _ rfl _ _ (0, 0) _ k1 Tryd.underlying34 rfl (by kernel_rfl) (by kernel_rfl) ?_) | (refine wpList_loadG 34 _ rfl _ rfl _ _ (0, 0) _ k2 Tryd.underlying34 rfl (by kernel_rfl) (by kernel_rfl) ?_) | (refine wpList_load_sub 32 _ rfl _ 0 rfl _ _ k1 (acC 8 2 3 1 (u3 50 75 90) (u3 40 60 80) 5 uLo uHi) rfl _ Tryd.underlying32 rfl (by kernel_rfl) (by kernel_rfl) ?_) | (refine wpList_buildG 34 _ rfl (aCC.C).toArray (by kernel_rfl) (by kernel_rfl) ?_) | fail)
  refine (config_Bound_u _).mono ?_; rintro e x2 ⟨rfl, hx⟩
  replace hb := hb.step hx
  replace k1 := k1.step hx
  replace k2 := k2.step hx
  clear hx
  go_wp2_with (first | (refine wpList_loadG 34 _ rfl _ rfl _ _ (0, 0) _ k1 Tryd.underlying34 rfl (by kernel_rfl) (by kernel_rfl) ?_) | (refine wpList_loadG 34 _ rfl _ rfl _ _ (0, 0) _ k2 Tryd.underlying34 rfl (by kernel_rfl) (by kernel_rfl) ?_) | (refine wpList_load_sub 32 _ rfl _ 0 rfl _ _ k1 (acC 8 2 3 1 (u3 50 75 90) (u3 40 60 80) 5 uLo uHi) rfl _ Tryd.underlying32 rfl (by kernel_rfl) (by kernel_rfl) ?_) | (refine wpList_buildG 34 _ rfl (aCC.C).toArray (by kernel_rfl) (by kernel_rfl) ?_) | fail)
  refine (config_Rounds_u0 _).mono ?_; rintro e x3 ⟨rfl, hx⟩
  replace hb := hb.step hx
  replace k1 := k1.step hx
  replace k2 := k2.step hx
  clear hx
  go_wp2_with (first | (refine wpList_loadG 34 _ rfl _ rfl _ _ (0, 0) _ k1 Tryd.underlying34 rfl (by kernel_rfl) (by kernel_rfl) ?_) | (refine wpList_loadG 34 _ rfl _ rfl _ _ (0, 0) _ k2 Tryd.underlying34 rfl (by kernel_rfl) (by kernel_rfl) ?_) | (refine wpList_load_sub 32 _ rfl _ 0 rfl _ _ k1 (acC 8 2 3 1 (u3 50 75 90) (u3 40 60 80) 5 uLo uHi) rfl _ Tryd.underlying32 rfl (by kernel_rfl) (by kernel_rfl) ?_) | (refine wpList_buildG 34 _ rfl (aCC.C).toArray (by kernel_rfl) (by kernel_rfl) ?_) | fail)
  refine (uCC_Check _).mono ?_; rintro e x4 ⟨rfl, hx⟩
  replace hb := hb.step hx
  replace k1 := k1.step hx
  replace k2 := k2.step hx
  clear hx
  go_wp2_with (first | (refine wpList_loadG 34 _ rfl _ rfl _ _ (0, 0) _ k1 Tryd.underlying34 rfl (by kernel_rfl) (by kernel_rfl) ?_) | (refine wpList_loadG 34 _ rfl _ rfl _ _ (0, 0) _ k2 Tryd.underlying34 rfl (by kernel_rfl) (by kernel_rfl) ?_) | (refine wpList_load_sub 32 _ rfl _ 0 rfl _ _ k1 (acC 8 2 3 1 (u3 50 75 90) (u3 40 60 80) 5 uLo uHi) rfl _ Tryd.underlying32 rfl (by kernel_rfl) (by kernel_rfl) ?_) | (refine wpList_buildG 34 _ rfl (aCC.C).toArray (by kernel_rfl) (by kernel_rfl) ?_) | fail)
  refine (check_aCC _).mono ?_; rintro e x5 ⟨rfl, hx⟩
  replace hb := hb.step hx
  replace k1 := k1.step hx
  replace k2 := k2.step hx
  clear hx
  go_wp2_with (first | (refine wpList_loadG 34 _ rfl _ rfl _ _ (0, 0) _ k1 Tryd.underlying34 rfl (by kernel_rfl) (by kernel_rfl) ?_) | (refine wpList_loadG 34 _ rfl _ rfl _ _ (0, 0) _ k2 Tryd.underlying34 rfl (by kernel_rfl) (by kernel_rfl) ?_) | (refine wpList_load_sub 32 _ rfl _ 0 rfl _ _ k1 (acC 8 2 3 1 (u3 50 75 90) (u3 40 60 80) 5 uLo uHi) rfl _ Tryd.underlying32 rfl (by kernel_rfl) (by kernel_rfl) ?_) | (refine wpList_buildG 34 _ rfl (zCC.C).toArray (by kernel_rfl) (by kernel_rfl) ?_) | fail)
  refine (same_zCC _).mono ?_; rintro e x6 ⟨rfl, hx⟩
  replace hb := hb.step hx
  replace k1 := k1.step hx
  replace k2 := k2.step hx
  clear hx
  go_wp2_with (first | (refine wpList_loadG 34 _ rfl _ rfl _ _ (0, 0) _ k1 Tryd.underlying34 rfl (by kernel_rfl) (by kernel_rfl) ?_) | (refine wpList_loadG 34 _ rfl _ rfl _ _ (0, 0) _ k2 Tryd.underlying34 rfl (by kernel_rfl) (by kernel_rfl) ?_) | (refine wpList_load_sub 32 _ rfl _ 0 rfl _ _ k1 (acC 8 2 3 1 (u3 50 75 90) (u3 40 60 80) 5 uLo uHi) rfl _ Tryd.underlying32 rfl (by kernel_rfl) (by kernel_rfl) ?_) | (refine wpList_buildG 34 _ rfl (aCC.C).toArray (by kernel_rfl) (by kernel_rfl) ?_) | fail)
  go_ret
  exact ⟨rfl, hb⟩
end Go.Proofs.YtfbllioegeadfaaDoor
