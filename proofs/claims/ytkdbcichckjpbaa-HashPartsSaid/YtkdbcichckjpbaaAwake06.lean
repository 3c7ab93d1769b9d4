/- callboylaw06.awake answers true. -/
import Derived.Test.YtkdbcichckjpbaaHash2
import Derived.Test.YtkdbcichckjpbaaSame
namespace Go.Proofs.Ytkdbcichckjpbaa
open Go.RowKit
set_option linter.unusedSimpArgs false
set_option linter.unusedVariables false

theorem awake06 (w : World) : Calls Try.prog 8 #[] w fun e w' => e = .returned (.bool true) ∧ Below w.heap.size w w' := by
  go_enter Try.func8, Try.ntmps8
  go_wp2_with fail
  refine ((hash_Draw_any _ (by omega) (by omega) _).lit (v' := .tuple #[.int .u64 0x9e3779b97f4a7c15, .int .u64 0xe220a8397b1dcdaf]) (by kernel_rfl)).mono ?_; rintro e w' ⟨rfl, hb'⟩; have hb := hb'
  go_wp2_with fail
  refine ((hash_Of_any _ (by decide) _).lit (v' := .int .u32 0x811c9dc5) (by kernel_rfl)).mono ?_; rintro e w' ⟨rfl, hb'⟩; replace hb := hb.then_ hb' hb.size
  go_wp2_with fail
  refine ((hash_Of_any _ (by decide) _).lit (v' := .int .u32 0xe40c292c) (by kernel_rfl)).mono ?_; rintro e w' ⟨rfl, hb'⟩; replace hb := hb.then_ hb' hb.size
  go_wp2_with fail
  refine ((hash_Of_any _ (by decide) _).lit (v' := .int .u32 1646454850) (by kernel_rfl)).mono ?_; rintro e w' ⟨rfl, hb'⟩; replace hb := hb.then_ hb' hb.size
  go_wp2_with fail
  refine ((hash_More_any _ _ (by decide) _).lit (v' := .int .u32 2851307223) (by kernel_rfl)).mono ?_; rintro e w' ⟨rfl, hb'⟩; replace hb := hb.then_ hb' hb.size
  go_wp2_with fail
  refine ((hash_Of_any _ (by decide) _).lit (v' := .int .u32 2851307223) (by kernel_rfl)).mono ?_; rintro e w' ⟨rfl, hb'⟩; replace hb := hb.then_ hb' hb.size
  go_wp2_with fail
  refine ((hash_Pair_any _ _ (by decide) (by decide) _).lit (v' := .int .u32 284404690) (by kernel_rfl)).mono ?_; rintro e w' ⟨rfl, hb'⟩; replace hb := hb.then_ hb' hb.size
  go_wp2_with fail
  refine ((hash_Of_any _ (by decide) _).lit (v' := .int .u32 284404690) (by kernel_rfl)).mono ?_; rintro e w' ⟨rfl, hb'⟩; replace hb := hb.then_ hb' hb.size
  go_wp2_with fail
  refine ((hash_Mix_any _ (by omega) (by omega) _).lit (v' := .int .u64 0) (by kernel_rfl)).mono ?_; rintro e w' ⟨rfl, rfl⟩
  go_wp2_with fail
  refine ((hash_Slot_any _ _ (by omega) (by omega) (by omega) _).lit (v' := .int .i64 3) (by kernel_rfl)).mono ?_; rintro e w' ⟨rfl, rfl⟩
  go_wp2_with fail
  refine ((hash_Slot_any _ _ (by omega) (by omega) (by omega) _).lit (v' := .int .i64 0) (by kernel_rfl)).mono ?_; rintro e w' ⟨rfl, rfl⟩
  go_wp2_with fail
  refine ((hash_Below_any _ _ (by omega) (by omega) (by omega) _).lit (v' := .int .i64 8) (by kernel_rfl)).mono ?_; rintro e w' ⟨rfl, rfl⟩
  go_wp2_with fail
  have hrd := (Bk.new w' 9 (strs' [⟨#[]⟩, ⟨#[97]⟩])).rd
  refine (hash_Spread_any _ _ [⟨#[]⟩, ⟨#[97]⟩] 1 (by omega) (by omega) _ (by decide) (by decide) hrd).mono ?_; rintro e w2 ⟨rfl, hbk, hb2⟩
  replace hb := (hb.alloc hb.size _).then_ hb2 (by have := hb.size; simp; omega)
  clear hrd hb2
  go_wp2_with fail
  have e1 : (hSpread 1 [⟨#[]⟩, ⟨#[97]⟩]) = [2] := by decide +kernel
  rw [e1] at hbk
  have hs2 : w'.heap.size + 1 < w2.heap.size := by have := hbk.lt; simpa using this
  have r1 := ((Bk.alloc hbk (.cells #[Value.int .i64 2] 3)).rd)
  have r2 := (Bk.new w2 3 (ints [2])).rd
  refine (SameInts_any _ _ 1 1 [2] [2] _ (by decide) (by simpa using r1) r2).mono ?_; rintro e w3 ⟨rfl, n, rfl⟩
  go_wp2
  go_ret
  exact ⟨rfl, ((hb.alloc hb.size _).drewN _)⟩
end Go.Proofs.Ytkdbcichckjpbaa
