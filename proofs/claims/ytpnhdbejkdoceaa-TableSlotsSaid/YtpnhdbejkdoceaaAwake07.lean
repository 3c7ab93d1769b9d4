/- Law 07: awake. -/
import Derived.Test.YtpnhdbejkdoceaaTb7
import Derived.Deep.DeepCutAuto
namespace Go.Proofs.Ytpnhdbejkdoceaa
open Go.RowKit Go.Sort
open Dn (ltP)
set_option linter.unusedSimpArgs false
set_option linter.unusedVariables false

abbrev kA : ByteArray := ⟨#[97]⟩
abbrev kB : ByteArray := ⟨#[98]⟩
abbrev kE : ByteArray := ⟨#[]⟩
abbrev kX : ByteArray := ⟨#[120]⟩
theorem nAB : kA ≠ kB := by decide
theorem nAE : kA ≠ kE := by decide
theorem nBE : kB ≠ kE := by decide
theorem nXA : kX ≠ kA := by decide
theorem nXB : kX ≠ kB := by decide
theorem nXE : kX ≠ kE := by decide
theorem nok {l : List TS} {k : ByteArray} (h : ∀ v, ¬ hasE l k v) : ¬ hasK l k := fun c => by
  obtain ⟨v, hv⟩ := hasK_E c; exact h v hv
def mE : EL := [(kE, 9), (kA, 5), (kB, 3)]

set_option maxHeartbeats 8000000 in
set_option maxRecDepth 100000 in
theorem awake_any (w : World) : Calls Try.prog 6 #[] w fun e w' => e = .returned (.bool true) ∧ Below w.heap.size w w' := by
  obtain ⟨tz1, tz2, tz3⟩ := ti_zero (n := 4) (by omega)
  have tw0 : TW (List.replicate 4 tz) 0 := ⟨tz1, tz2, by simp⟩
  have n0 : (List.replicate 4 tz).length = 4 := rfl
  have hN := tb_New w 4 (by omega)
  generalize List.replicate 4 tz = l0 at *
  go_enter Try.func6, Try.ntmps6
  go_wp2_with fail
  refine hN.mono ?_
  rintro e w1 ⟨gT, gS, rfl, h0, hg1, hg2, hb1⟩
  have F := fun {a b : World} (f : FpW [gT, gS] a b) (h : Below w.heap.size w a) => h.trans (f.toBelow h.size (by intro i hi; simp at hi; rcases hi with rfl | rfl <;> assumption))
  clear hN tz1 tz2
  go_wp2_with fail
  refine (put_c h0 tw0 kB 2 (by decide) (.inr (by omega))).mono ?_
  rintro e w2 ⟨rfl, l1, m1, h1, tw1, n1, u1, _, x1, f1⟩
  have hb2 := F f1 hb1
  obtain rfl : m1 = 1 := x1 (nok fun v => tz3 kB v)
  go_wp2_with fail
  refine (put_c h1 tw1 kA 1 (by decide) (.inr (by omega))).mono ?_
  rintro e w3 ⟨rfl, l2, m2, h2, tw2, n2, u2, _, x2, f2⟩
  have hb3 := F f2 hb2
  obtain rfl : m2 = 2 := x2 (nok fun v => by rw [u1, if_neg nAB]; exact tz3 kA v)
  go_wp2_with fail
  have hkB : hasK l2 kB := hasE_K (v := 2) (by rw [u2, if_neg nAB.symm, u1, if_pos rfl])
  refine (put_c h2 tw2 kB 3 (by decide) (.inl hkB)).mono ?_
  rintro e w4 ⟨rfl, l3, m3, h3, tw3, n3, u3, x3, _, f3⟩
  have hb4 := F f3 hb3
  obtain rfl : m3 = 2 := x3 hkB
  go_wp2_with fail
  refine (put_c h3 tw3 kE 9 (by decide) (.inr (by omega))).mono ?_
  rintro e w5 ⟨rfl, l4, m4, h4, tw4, n4, u4, _, x4, f4⟩
  have hb5 := F f4 hb4
  obtain rfl : m4 = 3 := x4 (nok fun v => by rw [u3, if_neg nBE.symm, u2, if_neg nAE.symm, u1, if_neg nBE.symm]; exact tz3 kE v)
  go_wp2_with fail
  refine (put_f h4 tw4 kX 1 (by decide) (nok fun v => by rw [u4, if_neg nXE, u3, if_neg nXB, u2, if_neg nXA, u1, if_neg nXB]; exact tz3 kX v) (by omega)).mono ?_
  rintro e w6 ⟨rfl, h5, f5⟩
  have hb6 := F f5 hb5
  go_wp2_with fail
  refine (add_c h5 tw4 kA 4 1 5 (by decide) (by rw [u4, if_neg nAE, u3, if_neg nAB, u2, if_pos rfl]) (by decide)).mono ?_
  rintro e w7 ⟨rfl, l6, h6, tw6, n6, u6, f6⟩
  have hb7 := F f6 hb6
  have eB : hasE l6 kB 3 := by rw [u6, if_neg nAB.symm, u4, if_neg nBE, u3, if_pos rfl]
  have eA : hasE l6 kA 5 := by rw [u6, if_pos rfl]
  have eE : hasE l6 kE 9 := by rw [u6, if_neg nAE.symm, u4, if_pos rfl]
  have hM : ∀ p, p ∈ mE ↔ hasE l6 p.1 p.2 := by
    rintro ⟨k, u⟩
    simp only [mE, List.mem_cons, List.not_mem_nil, or_false, Prod.mk.injEq]
    rw [u6, u4, u3, u2, u1]
    by_cases a : k = kA
    · subst a; simp [nAE, nAB]
    · by_cases b : k = kE
      · subst b; simp [nAE.symm, nBE.symm]
      · by_cases c : k = kB
        · subst c; simp [nAB.symm, nBE]
        · simp only [a, b, c, if_false, false_and, or_self, false_iff]
          exact tz3 k u
  have hS : mE.Pairwise (fun p q => ltP p q) := by
    simp [mE, ltP, lexB]
  have n6' : l6.length = 4 := by omega
  clear u1 u2 u3 u4 u6 h0 h1 h2 h3 h4 h5 hb1 hb2 hb3 hb4 hb5 hb6 hkB tz3 tw0 tw1 tw2 tw3 tw4
  go_wp2_with fail
  refine (get_c h6 tw6 kB 3 (by decide) eB).mono ?_
  rintro e w8 ⟨rfl, b8⟩
  have h8 := h6.step b8
  have hb8 := hb7.then_ b8 hb7.size
  go_wp2_with fail
  refine (all_c h8 tw6 mE hS hM).mono ?_
  rintro e w9 ⟨A9, c9, rfl, r9, b9⟩
  have h9 := h8.step b9
  have hb9 := hb8.then_ b9 hb8.size
  go_wp2_with fail
  refine (ent_any _ A9 c9 mE (by simp [mE]) r9).mono ?_
  rintro e w10 ⟨B, d, rfl, rB, fB, b10⟩
  have h10 := h9.step b10
  have hb10 := hb9.then_ b10 hb9.size
  have nB : ∀ a, B = some a → a.block ∉ [gT, gS] := fun a e hm => by
    have := fB a e
    have l1 := h9.tab.lt
    have l2 := h9.row.lt
    simp at hm
    omega
  clear r9
  go_wp2_with fail
  refine (del_c h10 tw6 kE (by decide) (hasE_K eE)).mono ?_
  rintro e w11 ⟨rfl, l11, m11, h11, tw11, n11, x11, u11, f11⟩
  have hb11 := F f11 hb10
  replace rB := f11.rd rB nB
  obtain rfl : m11 = 2 := by omega
  have kE11 : ¬ hasK l11 kE := nok fun v => by rw [u11]; simp
  have kA11 : hasK l11 kA := hasE_K (v := 5) ((u11 _ _).2 ⟨nAE, eA⟩)
  go_wp2_with fail
  refine (del_n h11 tw11 kE (by decide) kE11).mono ?_
  rintro e w12 ⟨rfl, h12, f12⟩
  have hb12 := F f12 hb11
  replace rB := f12.rd rB nB
  go_wp2_with fail
  refine (where_c h12 tw11 kA (by decide) kA11).mono ?_
  rintro e w13 ⟨⟨p, rfl, hp1, hp2, hp3⟩, b13⟩
  have h13 := h12.step b13
  have hb13 := hb12.then_ b13 hb12.size
  replace rB := rB.step b13
  have n11' : l11.length = 4 := by omega
  have hp4 : p < 4 := by omega
  have hfu : full l11 2 = false := by unfold full; rw [n11']; decide
  have hpI : (p : Int) < 4 := by omega
  have hkp : (keyR l11)[p]? = some (.string kA) := by
    rw [List.getElem?_map, List.getElem?_eq_getElem hp1]
    rw [gt_get hp1] at hp3
    simp [hp3]
  have hLe := fun W h => tb_Len W gT gS l11 2 h
  have hFu := fun W h => tb_Full W gT gS l11 2 h
  have hSl := fun W h => tb_Slots W gT gS l11 2 h
  have hWn := fun W h => where_n (W := W) (gT := gT) (gS := gS) (m := 2) h tw11 kE (by decide) kE11
  rw [hfu] at hFu
  rw [n11'] at hSl
  go_upto_region 12 with fail
  go_wp2_with fail
  refine (tb_New_bad _ 1 (.inl (by omega))).mono ?_
  rintro e w14 ⟨rfl, rfl⟩
  go_wp2_with fail
  have q2 : Rd (w13.alloc (.cells #[.string kE, .int .i64 9, .string kA, .int .i64 5, .string kB, .int .i64 3] 56)) (w13.alloc (.cells #[.string kE, .int .i64 9, .string kA, .int .i64 5, .string kB, .int .i64 3] 56)).heap.size (some ⟨w13.heap.size, 0, none⟩) (enR7 mE) := (Bk.new w13 56 (enR7 mE)).rd
  have b15 : Below w13.heap.size w13 (w13.alloc (.cells #[.string kE, .int .i64 9, .string kA, .int .i64 5, .string kB, .int .i64 3] 56)) := (Below.refl _ _).alloc1 _
  refine (SE_self B (some ⟨w13.heap.size, 0, none⟩) d 3 mE _ (by simp [mE]) (rB.alloc1 _) q2).mono ?_
  rintro e w16 ⟨rfl, k16⟩
  have b16 := b15.step (qt_below k16)
  have h16 := h13.step b16
  have hb16 := hb13.then_ b16 hb13.size
  go_wp2_with fail
  refine (hLe _ h16).mono ?_
  rintro e w17 ⟨rfl, rfl⟩
  go_wp2_with fail
  refine (hFu _ h16).mono ?_
  rintro e w18 ⟨rfl, b18⟩
  have h18 := h16.step b18
  have hb18 := hb16.then_ b18 hb16.size
  go_wp2_with fail
  refine (hSl _ h18).mono ?_
  rintro e w19 ⟨A19, c19, rfl, r19, b19⟩
  have h19 := h18.step b19
  have hb19 := hb18.then_ b19 hb18.size
  go_wp2_with fail
  refine (hSl _ h19).mono ?_
  rintro e w20 ⟨A20, c20, rfl, r20, b20⟩
  have h20 := h19.step b20
  have hb20 := hb19.then_ b20 hb19.size
  obtain ⟨a20, rfl, ab20, ac20⟩ := r20 (by intro c; rw [c] at hkp; simp at hkp)
  have cp : w20.cell? (a20.add p) = some (.string ⟨#[97]⟩) := ac20 p _ hkp
  clear ac20 r20 r19
  go_wp2_with fail
  refine (hWn _ h20).mono ?_
  rintro e w21 ⟨rfl, b21⟩
  have hb21 := hb20.then_ b21 hb20.size
  go_wp2
  go_ret
  exact ⟨rfl, hb21⟩
end Go.Proofs.Ytpnhdbejkdoceaa
