/- The reference of package addr: Full, Bare, IsBare. -/
import Derived.Test.YtfgfkiifekeeaaaAdr5
namespace Go.Proofs.Ytfgfkiifekeeaaa
open Go.RowKit Go.Shelf
set_option linter.unusedSimpArgs false
set_option linter.unusedVariables false

theorem aPrint_ok (n h r : List UInt8) (hc : aCheck n h r = 0) : aPrint (n, h, r) = (aText (n, h, r), 0) := by
  unfold aPrint
  rw [if_neg (by simpa using hc)]
set_option maxRecDepth 100000 in
set_option maxHeartbeats 4000000 in
theorem ref09_Bare_any (s : ByteArray) (hs : s.size ≤ 1000000) (w : World) : Calls Try.prog 51 #[.string s] w fun e w' =>
    e = .returned (.tuple #[.string (strOf (aBare s.data.toList).1), .int .i64 (aBare s.data.toList).2]) ∧ Below w.heap.size w w' := by
  have k0 := fun W => ref09_Parse_any s hs W
  have l0 := aParse_len s.data.toList
  have ok0 := aParse_ok s.data.toList
  rw [list_size] at l0
  obtain ⟨Z, hZ⟩ : ∃ Z, Z = aBare s.data.toList := ⟨_, rfl⟩
  rw [← hZ]
  unfold aBare at hZ
  generalize aParse s.data.toList = R at *
  obtain ⟨⟨n, h, r⟩, c⟩ := R
  dsimp only at *
  have k1 := fun W => ref09_Print_any (strOf n) (strOf h) ⟨#[]⟩ (by rw [strOf_size]; omega) (by rw [strOf_size]; omega) (by show 0 ≤ 1000000; omega) W
  rw [strOf_list, strOf_list, show (⟨#[]⟩ : ByteArray).data.toList = [] from rfl] at k1
  by_cases h0 : c = 0
  · subst h0
    replace hZ := hZ.trans (if_neg (by simp))
    rw [aPrint_ok n h [] (aCheck_res n h r [] (by rcases ok0 with a | a; exact a.2; exact absurd rfl a.1) aRes_nil)] at k1
    clear ok0
    generalize aText (n, h, []) = t at *
    unfold aV at *
    go_enter Try.func51, Try.ntmps51
    go_wp2_with fail
    refine (k0 _).mono ?_; rintro e w1 ⟨rfl, hb⟩
    go_wp2_with fail
    refine (k1 _).mono ?_; rintro e w3 ⟨rfl, hb3⟩
    go_wp2_with fail
    go_ret2
    exact ⟨by rw [hZ]; rfl, (hb.step ((Below.refl _ _).alloc1 _)).step hb3⟩
  · have h0B : (c != 0) = true := by rw [bne_iff_ne]; exact h0
    replace hZ := hZ.trans (if_pos h0)
    clear ok0 k1
    unfold aV at *
    go_enter Try.func51, Try.ntmps51
    go_wp2_with fail
    refine (k0 _).mono ?_; rintro e w1 ⟨rfl, hb⟩
    go_wp2_with fail
    go_ret2
    exact ⟨by rw [hZ]; rfl, hb.step (by (repeat (first | with_reducible exact Below.refl _ _ | with_reducible assumption | with_reducible refine Below.drew ?_ | with_reducible refine Below.drewN ?_ _ | with_reducible refine Below.alloc1 ?_ _ | with_reducible refine Below.setCell1 ?_ (by first | omega | (simp; done) | (simp; omega)) _ | with_reducible refine Below.step ?_ (by with_reducible assumption))))⟩
set_option maxRecDepth 100000 in
set_option maxHeartbeats 4000000 in
theorem ref09_IsBare_any (s : ByteArray) (hs : s.size ≤ 1000000) (w : World) : Calls Try.prog 44 #[.string s] w fun e w' => e = .returned (.bool (aIsBare s.data.toList)) ∧ Below w.heap.size w w' := by
  have k0 := fun W => ref09_Bare_any s hs W
  obtain ⟨Z, hZ⟩ : ∃ Z, Z = aIsBare s.data.toList := ⟨_, rfl⟩
  rw [← hZ]
  unfold aIsBare at hZ
  generalize aBare s.data.toList = R at *
  obtain ⟨t, c⟩ := R
  dsimp only at *
  have hE := str_beq (strOf t) s
  rw [strOf_list] at hE
  by_cases h0 : c = 0
  · subst h0
    have hZ2 : Z = decide (t = s.data.toList) := by rw [hZ]; simp
    clear hZ
    generalize decide (t = s.data.toList) = d at *
    subst hZ2
    go_enter Try.func44, Try.ntmps44
    go_wp2_with fail
    refine (k0 _).mono ?_; rintro e w1 ⟨rfl, hb⟩
    go_wp2_with fail
    go_ret
    exact ⟨by simp, hb⟩
  · have h0B : (c == 0) = false := by rw [beq_eq_false_iff_ne]; exact h0
    have hZ2 : Z = false := by rw [hZ, decide_eq_false (fun h => h0 h.1)]
    clear hE hZ
    subst hZ2
    go_enter Try.func44, Try.ntmps44
    go_wp2_with fail
    refine (k0 _).mono ?_; rintro e w1 ⟨rfl, hb⟩
    go_wp2_with fail
    go_ret
    exact ⟨rfl, hb⟩
end Go.Proofs.Ytfgfkiifekeeaaa
