/- The walk of ConfigBack. -/
import Derived.Test.YtfbllioegeadfaaDoorLaw32a
import Derived.Test.YtfbllioegeadfaaDoorBk32
namespace Go.Proofs.YtfbllioegeadfaaDoor
open Go.RowKit Go.Sort
set_option linter.unusedSimpArgs false
set_option linter.unusedVariables false

set_option maxRecDepth 100000 in
set_option maxHeartbeats 16000000 in
theorem ConfigBack_walk (c : CC) (s : ByteArray) (w : World) (hg : GW w) : Calls Tryd.prog 4 #[c.V, .string s] w fun e w' => e = .returned (.bool true) ∧ Below w.heap.size w w' := by
  by_cases h3 : 300 < s.size
  · have h3i : (300 : Int) < (s.size : Int) := by omega
    go_enter Tryd.func4, Tryd.ntmps4
    go_upto_region 1 with fail
    generalize hV : World.alloc w _ = w1
    have hb : Below w.heap.size w w1 := by subst hV; (repeat (first | with_reducible exact Below.refl _ _ | with_reducible assumption | with_reducible refine Below.drew ?_ | with_reducible refine Below.drewN ?_ _ | with_reducible refine Below.alloc1 ?_ _ | with_reducible refine Below.setCell1 ?_ (by first | omega | (simp; done) | (simp; omega)) _ | with_reducible refine Below.step ?_ (by with_reducible assumption)))
    clear hV
    go_wp2_with fail
    refine (awake_any _ (hg.step hb)).mono ?_; rintro e w2 ⟨rfl, hx⟩
    go_wp2
    go_ret
    exact ⟨rfl, hb.step hx⟩
  have h3i : ¬ (300 : Int) < (s.size : Int) := by omega
  have h3i' : (s.size : Int) ≤ 300 := by omega
  have hps := fun W hW => config_Parse_any s (by omega) W hW
  have hpp := hide (fun y => print_parse (s := s.data.toList) (y := y))
  obtain ⟨⟨y, f⟩, hR⟩ : ∃ R, R = cParse s.data.toList := ⟨_, rfl⟩
  rw [← hR] at hps
  have hpp2 : Hid (f = 0 → cPrint y = (s.data.toList, 0)) := fun h => hpp.out y (by rw [← hR, h])
  clear hR hpp
  dsimp only at hps
  have hck := fun W => config_Check_any c W
  have hpy := fun W hW => config_Print_any y W hW
  obtain ⟨⟨u, g2⟩, hU⟩ : ∃ U, U = cPrint y := ⟨_, rfl⟩
  rw [← hU] at hpy hpp2
  clear hU
  dsimp only at hpy
  have hpc := fun W hW => config_Print_any c W hW
  go_enter Tryd.func4, Tryd.ntmps4
  go_upto_region 1 with fail
  generalize hV : World.alloc w _ = w1
  have hb : Below w.heap.size w w1 := by subst hV; (repeat (first | with_reducible exact Below.refl _ _ | with_reducible assumption | with_reducible refine Below.drew ?_ | with_reducible refine Below.drewN ?_ _ | with_reducible refine Below.alloc1 ?_ _ | with_reducible refine Below.setCell1 ?_ (by first | omega | (simp; done) | (simp; omega)) _ | with_reducible refine Below.step ?_ (by with_reducible assumption)))
  have k0 : Bk w1 w.heap.size 44 c.C := by subst hV; exact Bk.new w _ _
  clear hV
  replace hg := hg.step hb
  go_wp2_with (first | (refine wpList_load_row rfl 44 _ rfl _ rfl _ _ (0, 0) _ k0 Tryd.underlying44 rfl (by kernel_rfl) ?_) | fail)
  refine (own_any32 c _).mono ?_; rintro e w2 ⟨rfl, hx⟩
  replace hg := hg.step hx
  replace hb := hb.step hx
  clear hx
  clear k0
  go_upto_region 4 with (first | (refine wpList_store_row rfl 34 _ _ rfl _ (c.C).toArray rfl rfl _ _ (Bk.new _ _ _) (by kernel_rfl) (by kernel_rfl) (by kernel_rfl) ?_) | fail)
  generalize hV : World.setRow _ _ _ = w3
  have hx : Below w2.heap.size w2 w3 := by subst hV; exact setRow_below ((Below.refl _ _).alloc1 _) (Nat.le_refl _) _
  have k5 : Bk w3 w2.heap.size 34 (c.C) := by subst hV; exact (Bk.new w2 _ _).row _
  clear hV
  replace hg := hg.step hx
  replace hb := hb.step hx
  clear hx
  go_wp2_with (first | (refine wpList_load_row rfl 34 _ rfl _ rfl _ _ (0, 0) _ k5 Tryd.underlying34 rfl (by kernel_rfl) ?_) | fail)
  refine (hpc _ hg).mono ?_; rintro e w4 ⟨rfl, hx⟩
  replace hg := hg.step hx
  replace hb := hb.step hx
  replace k5 := k5.step hx
  clear hx
  clear hpc
  have hways := print_ways c
  rcases hways with ⟨hc, hp⟩ | ⟨hc, hp⟩
  · rw [hp]
    dsimp only
    obtain ⟨T, hT⟩ : ∃ T : ByteArray, T = ⟨(pText cFd (rowL c)).toArray⟩ := ⟨_, rfl⟩
    have hTl : T.data.toList = pText cFd (rowL c) := by rw [hT]
    rw [← hT]
    have hTn := pText_len hc
    rw [← hTl, list_size] at hTn
    have hpT := fun W hW => config_Parse_any T hTn.2 W hW
    rw [hTl, parse_print hc] at hpT
    dsimp only at hpT
    have hSd := fun W => config_Same_any c (ofL (rowL c)) W
    rw [show cSame c (ofL (rowL c)) = true from (cSame_iff _ _).2 (rowL_of _ rfl).symm] at hSd
    replace hTl := hide hTl
    have hc0 := hide hc
    rw [hc] at hck
    clear hT hp hc
    generalize ofL (rowL c) = d at *
    go_wp2_with fail
    refine (hpT _ hg).mono ?_; rintro e w5 ⟨rfl, hx⟩
    replace hg := hg.step hx
    replace hb := hb.step hx
    replace k5 := k5.step hx
    clear hx hpT
    go_upto_region 7 with (first | (refine wpList_store_row rfl 34 _ _ rfl _ (d.C).toArray rfl rfl _ _ (Bk.new _ _ _) (by kernel_rfl) (by kernel_rfl) (by kernel_rfl) ?_) | fail)
    generalize hV : World.setRow _ _ _ = w6
    have hx : Below w5.heap.size w5 w6 := by subst hV; exact setRow_below ((Below.refl _ _).alloc1 _) (Nat.le_refl _) _
    have k8 : Bk w6 w5.heap.size 34 d.C := by subst hV; exact (Bk.new w5 _ _).row _
    clear hV
    replace hg := hg.step hx
    replace hb := hb.step hx
    replace k5 := k5.step hx
    clear hx
    have bE : T.toList.isEmpty = false := by rw [isE, decide_eq_false (by omega)]
    have t1 : (1 : Int) ≤ (T.size : Int) := by omega
    have t2 := IntWalk.i64_in ((T.size : Int) - 1) (by omega)
    have t3 : (0 : Int) ≤ (T.size : Int) - 1 := by omega
    have t4 : (T.size : Int) - 1 ≤ (T.size : Int) := by omega
    have t5 : ((T.size : Int) - 1).toNat = T.size - 1 := by omega
    go_wp2_with (first | (refine wpList_loadG 34 _ rfl _ rfl _ _ (0, 0) _ k5 Tryd.underlying34 rfl (by kernel_rfl) (by kernel_rfl) ?_) | (refine wpList_loadG 34 _ rfl _ rfl _ _ (0, 0) _ k8 Tryd.underlying34 rfl (by kernel_rfl) (by kernel_rfl) ?_) | fail)
    refine (hSd _).mono ?_; rintro e w7 ⟨rfl, hx⟩
    replace hg := hg.step hx
    replace hb := hb.step hx
    replace k5 := k5.step hx
    clear hx hSd k8
    go_wp2_with fail
    obtain ⟨T2, hT2⟩ : ∃ T2, T2 = T.extract 0 (T.size - 1) := ⟨_, rfl⟩
    have hT2s : T2.size = T.size - 1 := by rw [hT2]; simp
    rw [← hT2]
    clear hT2 t2 t3 t4 t5 bE
    have hp2 := fun W hW => config_Parse_any T2 (by omega) W hW
    have hless := fun z hz hs => parse_less (c := c) (z := z) (t := T2.data.toList) hz hs
    obtain ⟨⟨z, g⟩, hZ⟩ : ∃ R, R = cParse T2.data.toList := ⟨_, rfl⟩
    rw [← hZ] at hp2 hless
    clear hZ
    dsimp only at hp2
    have hns : Hid (g = 0 → cSame c z = false) := fun h0 => by
      cases hs : cSame c z with
      | false => rfl
      | true =>
        have h1 := hless z (by rw [h0]) hs
        rw [← hTl.out] at h1
        have h2 := congrArg List.length h1
        rw [list_size, list_size] at h2
        omega
    clear hless
    refine (hp2 _ hg).mono ?_; rintro e w8 ⟨rfl, hx⟩
    replace hg := hg.step hx
    replace hb := hb.step hx
    replace k5 := k5.step hx
    clear hx hp2
    go_upto_region 10 with (first | (refine wpList_store_row rfl 34 _ _ rfl _ (z.C).toArray rfl rfl _ _ (Bk.new _ _ _) (by kernel_rfl) (by kernel_rfl) (by kernel_rfl) ?_) | fail)
    generalize hV : World.setRow _ _ _ = w9
    have hx : Below w8.heap.size w8 w9 := by subst hV; exact setRow_below ((Below.refl _ _).alloc1 _) (Nat.le_refl _) _
    have k10 : Bk w9 w8.heap.size 34 z.C := by subst hV; exact (Bk.new w8 _ _).row _
    clear hV
    replace hg := hg.step hx
    replace hb := hb.step hx
    replace k5 := k5.step hx
    clear hx
    by_cases hg0 : g = 0
    · have hSz := fun W => config_Same_any c z W
      rw [hns.out hg0] at hSz
      subst hg0
      clear hns
      go_wp2_with (first | (refine wpList_loadG 34 _ rfl _ rfl _ _ (0, 0) _ k5 Tryd.underlying34 rfl (by kernel_rfl) (by kernel_rfl) ?_) | (refine wpList_loadG 34 _ rfl _ rfl _ _ (0, 0) _ k10 Tryd.underlying34 rfl (by kernel_rfl) (by kernel_rfl) ?_) | fail)
      refine (hSz _).mono ?_; rintro e w10 ⟨rfl, hx⟩
      replace hg := hg.step hx
      replace hb := hb.step hx
      replace k5 := k5.step hx
      clear hx hSz k10
      go_wp2_with fail
      refine (hps _ hg).mono ?_; rintro e x1 ⟨rfl, hx⟩
      replace hg := hg.step hx
      replace hb := hb.step hx
      replace k5 := k5.step hx
      clear hx hps
      go_upto_region 13 with (first | (refine wpList_store_row rfl 34 _ _ rfl _ (y.C).toArray rfl rfl _ _ (Bk.new _ _ _) (by kernel_rfl) (by kernel_rfl) (by kernel_rfl) ?_) | fail)
      generalize hV : World.setRow _ _ _ = x2
      have hx : Below x1.heap.size x1 x2 := by subst hV; exact setRow_below ((Below.refl _ _).alloc1 _) (Nat.le_refl _) _
      have k12 : Bk x2 x1.heap.size 34 y.C := by subst hV; exact (Bk.new x1 _ _).row _
      clear hV
      replace hg := hg.step hx
      replace hb := hb.step hx
      replace k5 := k5.step hx
      clear hx
      go_wp2_with (first | (refine wpList_load_row rfl 34 _ rfl _ rfl _ _ (0, 0) _ k12 Tryd.underlying34 rfl (by kernel_rfl) ?_) | fail)
      refine (hpy _ hg).mono ?_; rintro e x3 ⟨rfl, hx⟩
      replace hg := hg.step hx
      replace hb := hb.step hx
      replace k5 := k5.step hx
      clear hx hpy k12
      go_wp2_with (first | (refine wpList_load_row rfl 34 _ rfl _ rfl _ _ (0, 0) _ k5 Tryd.underlying34 rfl (by kernel_rfl) ?_) | (refine wpList_loadG 34 _ rfl _ rfl _ _ (0, 0) _ k5 Tryd.underlying34 rfl (by kernel_rfl) (by kernel_rfl) ?_) | fail)
      refine (hck _).mono ?_; rintro e x4 ⟨rfl, hx⟩
      replace hg := hg.step hx
      replace hb := hb.step hx
      clear hx hck k5
      by_cases hf : f = 0
      · obtain ⟨rfl, rfl⟩ : u = s.data.toList ∧ g2 = 0 := Prod.mk.inj (hpp2.out hf)
        subst hf
        have hus : (⟨s.data.toList.toArray⟩ : ByteArray) = s := rfl
        rw [hus]
        clear hus hpp2
        go_wp2_with fail
        refine (awake_any _ hg).mono ?_; rintro e x5 ⟨rfl, hx⟩
        replace hb := hb.step hx
        go_wp2
        go_ret
        exact ⟨rfl, hb⟩
      · have hf2 : (f != 0) = true := by simp [hf]
        clear hpp2
        go_wp2_with fail
        refine (awake_any _ hg).mono ?_; rintro e x5 ⟨rfl, hx⟩
        replace hb := hb.step hx
        go_wp2
        go_ret
        exact ⟨rfl, hb⟩
    · have hg0f : (g == 0) = false := by simp [hg0]
      clear hns k10
      go_wp2_with fail
      refine (hps _ hg).mono ?_; rintro e x1 ⟨rfl, hx⟩
      replace hg := hg.step hx
      replace hb := hb.step hx
      replace k5 := k5.step hx
      clear hx hps
      go_upto_region 13 with (first | (refine wpList_store_row rfl 34 _ _ rfl _ (y.C).toArray rfl rfl _ _ (Bk.new _ _ _) (by kernel_rfl) (by kernel_rfl) (by kernel_rfl) ?_) | fail)
      generalize hV : World.setRow _ _ _ = x2
      have hx : Below x1.heap.size x1 x2 := by subst hV; exact setRow_below ((Below.refl _ _).alloc1 _) (Nat.le_refl _) _
      have k12 : Bk x2 x1.heap.size 34 y.C := by subst hV; exact (Bk.new x1 _ _).row _
      clear hV
      replace hg := hg.step hx
      replace hb := hb.step hx
      replace k5 := k5.step hx
      clear hx
      go_wp2_with (first | (refine wpList_load_row rfl 34 _ rfl _ rfl _ _ (0, 0) _ k12 Tryd.underlying34 rfl (by kernel_rfl) ?_) | fail)
      refine (hpy _ hg).mono ?_; rintro e x3 ⟨rfl, hx⟩
      replace hg := hg.step hx
      replace hb := hb.step hx
      replace k5 := k5.step hx
      clear hx hpy k12
      go_wp2_with (first | (refine wpList_load_row rfl 34 _ rfl _ rfl _ _ (0, 0) _ k5 Tryd.underlying34 rfl (by kernel_rfl) ?_) | (refine wpList_loadG 34 _ rfl _ rfl _ _ (0, 0) _ k5 Tryd.underlying34 rfl (by kernel_rfl) (by kernel_rfl) ?_) | fail)
      refine (hck _).mono ?_; rintro e x4 ⟨rfl, hx⟩
      replace hg := hg.step hx
      replace hb := hb.step hx
      clear hx hck k5
      by_cases hf : f = 0
      · obtain ⟨rfl, rfl⟩ : u = s.data.toList ∧ g2 = 0 := Prod.mk.inj (hpp2.out hf)
        subst hf
        have hus : (⟨s.data.toList.toArray⟩ : ByteArray) = s := rfl
        rw [hus]
        clear hus hpp2
        go_wp2_with fail
        refine (awake_any _ hg).mono ?_; rintro e x5 ⟨rfl, hx⟩
        replace hb := hb.step hx
        go_wp2
        go_ret
        exact ⟨rfl, hb⟩
      · have hf2 : (f != 0) = true := by simp [hf]
        clear hpp2
        go_wp2_with fail
        refine (awake_any _ hg).mono ?_; rintro e x5 ⟨rfl, hx⟩
        replace hb := hb.step hx
        go_wp2
        go_ret
        exact ⟨rfl, hb⟩
  · rw [hp]
    dsimp only
    generalize cCheck c = v at *
    have hv1 : (v == 0) = false := by simp [hc]
    clear hp
    go_wp2_with fail
    refine (hps _ hg).mono ?_; rintro e x1 ⟨rfl, hx⟩
    replace hg := hg.step hx
    replace hb := hb.step hx
    replace k5 := k5.step hx
    clear hx hps
    go_upto_region 13 with (first | (refine wpList_store_row rfl 34 _ _ rfl _ (y.C).toArray rfl rfl _ _ (Bk.new _ _ _) (by kernel_rfl) (by kernel_rfl) (by kernel_rfl) ?_) | fail)
    generalize hV : World.setRow _ _ _ = x2
    have hx : Below x1.heap.size x1 x2 := by subst hV; exact setRow_below ((Below.refl _ _).alloc1 _) (Nat.le_refl _) _
    have k12 : Bk x2 x1.heap.size 34 y.C := by subst hV; exact (Bk.new x1 _ _).row _
    clear hV
    replace hg := hg.step hx
    replace hb := hb.step hx
    replace k5 := k5.step hx
    clear hx
    go_wp2_with (first | (refine wpList_load_row rfl 34 _ rfl _ rfl _ _ (0, 0) _ k12 Tryd.underlying34 rfl (by kernel_rfl) ?_) | fail)
    refine (hpy _ hg).mono ?_; rintro e x3 ⟨rfl, hx⟩
    replace hg := hg.step hx
    replace hb := hb.step hx
    replace k5 := k5.step hx
    clear hx hpy k12
    go_wp2_with (first | (refine wpList_load_row rfl 34 _ rfl _ rfl _ _ (0, 0) _ k5 Tryd.underlying34 rfl (by kernel_rfl) ?_) | (refine wpList_loadG 34 _ rfl _ rfl _ _ (0, 0) _ k5 Tryd.underlying34 rfl (by kernel_rfl) (by kernel_rfl) ?_) | fail)
    refine (hck _).mono ?_; rintro e x4 ⟨rfl, hx⟩
    replace hg := hg.step hx
    replace hb := hb.step hx
    clear hx hck k5
    by_cases hf : f = 0
    · obtain ⟨rfl, rfl⟩ : u = s.data.toList ∧ g2 = 0 := Prod.mk.inj (hpp2.out hf)
      subst hf
      have hus : (⟨s.data.toList.toArray⟩ : ByteArray) = s := rfl
      rw [hus]
      clear hus hpp2
      go_wp2_with fail
      refine (awake_any _ hg).mono ?_; rintro e x5 ⟨rfl, hx⟩
      replace hb := hb.step hx
      go_wp2
      go_ret
      exact ⟨rfl, hb⟩
    · have hf2 : (f != 0) = true := by simp [hf]
      clear hpp2
      go_wp2_with fail
      refine (awake_any _ hg).mono ?_; rintro e x5 ⟨rfl, hx⟩
      replace hb := hb.step hx
      go_wp2
      go_ret
      exact ⟨rfl, hb⟩
end Go.Proofs.YtfbllioegeadfaaDoor
