/- Law 15: awake. -/
import Derived.Test.YtbljiohdfjmhfaaWh9
namespace Go.Proofs.Ytbljiohdfjmhfaa
open Go.RowKit Go.Sort Go.Maps
open Dn (ltP)
set_option linter.unusedSimpArgs false
set_option linter.unusedVariables false

set_option maxHeartbeats 4000000 in
set_option maxRecDepth 100000 in
theorem awake_any (w : World) : Calls Try.prog 7 #[] w fun e w' => e = .returned (.bool true) ∧ Below w.heap.size w w' := by
  have hN : Calls Try.prog 8 #[.int .i64 4] w (fun e w' => Below w.heap.size w w' ∧
      ∃ g wm ad rs, e = .returned (.tuple #[.pointer (some ⟨g, 0, none⟩), .int .i64 0]) ∧ Wh w' g wm ad rs ⟨4, 0, []⟩ ∧ ∀ i ∈ fpOf g wm ad rs, w.heap.size ≤ i) := wh_New w 4 (by omega)
  go_enter Try.func7, Try.ntmps7
  go_wp2_with fail
  refine hN.mono ?_
  rintro e w1 ⟨hb1, g, wm, ad, rs, rfl, h1, hfp⟩
  have hlt := h1.lt
  have F := fun {a b : World} (f : FpW (fpOf g wm ad rs) a b) (h : Below w.heap.size w a) => h.trans (f.toBelow h.size hfp)
  go_wp2_with fail
  refine (wh_Set _ g wm ad rs ⟨4, 0, []⟩ 7 5 (wfi (by omega)) (wfi (by omega)) h1).mono ?_
  rintro e w2 ⟨rfl, h2, f2⟩
  replace h2 : Wh w2 g wm ad rs ⟨4, 0, [(7, 5)]⟩ := h2
  have hb2 := F f2 hb1
  go_wp2_with fail
  refine (wh_Set _ g wm ad rs ⟨4, 0, [(7, 5)]⟩ 3 5 (wfi (by omega)) (wfi (by omega)) h2).mono ?_
  rintro e w3 ⟨rfl, h3, f3⟩
  replace h3 : Wh w3 g wm ad rs ⟨4, 0, [(3, 5), (7, 5)]⟩ := h3
  have hb3 := F f3 hb2
  go_wp2_with fail
  refine (wh_Set _ g wm ad rs ⟨4, 0, [(3, 5), (7, 5)]⟩ 9 9 (wfi (by omega)) (wfi (by omega)) h3).mono ?_
  rintro e w4 ⟨rfl, h4, f4⟩
  replace h4 : Wh w4 g wm ad rs ⟨4, 0, [(9, 9), (3, 5), (7, 5)]⟩ := h4
  have hb4 := F f4 hb3
  go_wp2_with fail
  refine (wh_Set _ g wm ad rs ⟨4, 0, [(9, 9), (3, 5), (7, 5)]⟩ 9 6 (wfi (by omega)) (wfi (by omega)) h4).mono ?_
  rintro e w5 ⟨rfl, h5, f5⟩
  replace h5 : Wh w5 g wm ad rs ⟨4, 0, [(9, 6), (3, 5), (7, 5)]⟩ := h5
  have hb5 := F f5 hb4
  replace h5 : Wh w5 g wm ad rs ⟨4, 0, [(3, 5), (7, 5), (9, 6)]⟩ := h5.perm (by decide)
  have hs5 : SoL [(3, 5), (7, 5), (9, 6)] := by unfold SoL; decide
  go_wp2_with fail
  refine (wh_Next _ g wm ad rs ⟨4, 0, [(3, 5), (7, 5), (9, 6)]⟩ hs5 h5).mono ?_
  rintro e w6 ⟨rfl, b6⟩
  have h6 := h5.step b6
  have hb6 := hb5.then_ b6 hb5.size
  go_wp2_with fail
  refine (wh_Load _ g wm ad rs ⟨4, 0, [(3, 5), (7, 5), (9, 6)]⟩ h6).mono ?_
  rintro e w7 ⟨A7, c7, rfl, r7, fr7, b7⟩
  replace r7 : Rd w7 w7.heap.size A7 (ints [0, 2, 1, 0]) := r7
  have h7 := h6.step b7
  have hb7 := hb6.then_ b7 hb6.size
  go_wp2_with fail
  refine (wh_Go _ g wm ad rs ⟨4, 0, [(3, 5), (7, 5), (9, 6)]⟩ 5 h7 ⟨by decide, by decide⟩).mono ?_
  rintro e w8 ⟨A8, c8, l8, rfl, p8, so8, r8, fr8, h8, f8⟩
  have e8 : l8 = [(3, 5), (7, 5)] := so_eq (p8.trans (.of_eq (by decide))) so8 (by unfold SoL; decide)
  subst e8
  replace h8 : Wh w8 g wm ad rs ⟨4, 5, [(9, 6)]⟩ := h8
  have hb8 := F f8 hb7
  have s1 := hb1.size
  have n7 : ∀ a, A7 = some a → a.block ∉ fpOf g wm ad rs := fun a e hm => by
    have x1 := hlt _ hm
    have x2 := fr7 a e
    have := f2.size; have := f3.size; have := f4.size; have := f5.size; have := b6.size
    omega
  replace r7 := f8.rd r7 n7
  go_wp2_with fail
  refine (due_any _ _ _ _ (by simp) r8).mono ?_
  rintro e w9 ⟨B9, d9, rfl, o9, b9⟩
  have h9 := h8.step b9
  have hb9 := hb8.then_ b9 hb8.size
  replace r7 := r7.step b9
  have r9 := own_rd o9
  have fr9 := own_fr o9
  have n9 : ∀ a, B9 = some a → a.block ∉ fpOf g wm ad rs := fun a e hm => by
    have x1 := hlt _ hm
    have x2 := fr9 a e
    have := f2.size; have := f3.size; have := f4.size; have := f5.size; have := b6.size; have := b7.size; have := f8.size
    omega
  go_wp2_with fail
  refine (wh_Set _ g wm ad rs ⟨4, 5, [(9, 6)]⟩ 1 5 (wfi (by omega)) (wfi (by omega)) h9).mono ?_
  rintro e w10 ⟨rfl, h10, f10⟩
  replace h10 : Wh w10 g wm ad rs ⟨4, 5, [(9, 6)]⟩ := h10
  have hb10 := F f10 hb9
  replace r7 := f10.rd r7 n7
  replace r9 := f10.rd r9 n9
  go_wp2_with fail
  refine (wh_When _ g wm ad rs ⟨4, 5, [(9, 6)]⟩ 9 (wfi (by omega)) h10).mono ?_
  rintro e w11 ⟨he, b11⟩
  replace he : e = .returned (.tuple #[.int .i64 6, .bool true]) := he
  subst he
  have h11 := h10.step b11
  have hb11 := hb10.then_ b11 hb10.size
  replace r7 := r7.step b11
  replace r9 := r9.step b11
  go_wp2_with fail
  refine (wh_Stop _ g wm ad rs ⟨4, 5, [(9, 6)]⟩ 9 (wfi (by omega)) h11).mono ?_
  rintro e w12 ⟨he, h12, f12⟩
  replace he : e = .returned (.bool true) := he
  subst he
  replace h12 : Wh w12 g wm ad rs ⟨4, 5, []⟩ := h12
  have hb12 := F f12 hb11
  replace r7 := f12.rd r7 n7
  replace r9 := f12.rd r9 n9
  go_wp2_with fail
  refine (wh_Stop _ g wm ad rs ⟨4, 5, []⟩ 9 (wfi (by omega)) h12).mono ?_
  rintro e w13 ⟨he, h13, f13⟩
  replace he : e = .returned (.bool false) := he
  subst he
  replace h13 : Wh w13 g wm ad rs ⟨4, 5, []⟩ := h13
  have hb13 := F f13 hb12
  replace r7 := f13.rd r7 n7
  replace r9 := f13.rd r9 n9
  go_wp2_with fail
  refine (wh_New_bad _ 0 (by omega)).mono ?_
  rintro e w14 ⟨rfl, b14⟩
  have h14 := h13.step b14
  have hb14 := hb13.then_ b14 hb13.size
  replace r7 := r7.step b14
  replace r9 := r9.step b14
  go_wp2_with fail
  have q1 : Rd (w14.alloc (.cells #[.int .i64 0, .int .i64 2, .int .i64 1, .int .i64 0] 3)) (w14.alloc (.cells #[.int .i64 0, .int .i64 2, .int .i64 1, .int .i64 0] 3)).heap.size (some ⟨w14.heap.size, 0, none⟩) (ints [0, 2, 1, 0]) := (Bk.new w14 3 (ints [0, 2, 1, 0])).rd
  have b15 : Below w14.heap.size w14 (w14.alloc (.cells #[.int .i64 0, .int .i64 2, .int .i64 1, .int .i64 0] 3)) := (Below.refl _ _).alloc1 _
  refine (SameInts_any A7 (some ⟨w14.heap.size, 0, none⟩) c7 4 [0, 2, 1, 0] [0, 2, 1, 0] _ (by unfold maxLen; simp) (r7.alloc1 _) q1).mono ?_
  rintro e w16 ⟨he, k16⟩
  replace he : e = .returned (.bool true) := he
  subst he
  have b16 := b15.step (qt_below k16)
  have h16 := h14.step b16
  have hb16 := hb14.then_ b16 hb14.size
  replace r9 := r9.step b16
  clear q1 k16 b15
  go_wp2_with fail
  have q2 : Rd (w16.alloc (.cells #[.int .i64 3, .int .i64 5, .int .i64 7, .int .i64 5] 65)) (w16.alloc (.cells #[.int .i64 3, .int .i64 5, .int .i64 7, .int .i64 5] 65)).heap.size (some ⟨w16.heap.size, 0, none⟩) (duR [(3, 5), (7, 5)]) := (Bk.new w16 65 (duR [(3, 5), (7, 5)])).rd
  have b17 : Below w16.heap.size w16 (w16.alloc (.cells #[.int .i64 3, .int .i64 5, .int .i64 7, .int .i64 5] 65)) := (Below.refl _ _).alloc1 _
  refine (SameDue_any B9 (some ⟨w16.heap.size, 0, none⟩) d9 2 [(3, 5), (7, 5)] [(3, 5), (7, 5)] _ (by simp) (r9.alloc1 _) q2).mono ?_
  rintro e w18 ⟨he, k18⟩
  replace he : e = .returned (.bool true) := he
  subst he
  have b18 := b17.step (qt_below k18)
  have h18 := h16.step b18
  have hb18 := hb16.then_ b18 hb16.size
  clear q2 k18 b17
  go_wp2_with fail
  refine (wh_Len _ g wm ad rs ⟨4, 5, []⟩ h18).mono ?_
  rintro e w19 ⟨he, b19⟩
  replace he : e = .returned (.int .i64 0) := he
  subst he
  have h19 := h18.step b19
  have hb19 := hb18.then_ b19 hb18.size
  go_wp2_with fail
  refine (wh_Now _ g wm ad rs ⟨4, 5, []⟩ h19).mono ?_
  rintro e w20 ⟨he, b20⟩
  replace he : e = .returned (.int .i64 5) := he
  subst he
  have hb20 := hb19.then_ b20 hb19.size
  go_wp2
  go_ret
  exact ⟨rfl, hb20⟩
end Go.Proofs.Ytbljiohdfjmhfaa
