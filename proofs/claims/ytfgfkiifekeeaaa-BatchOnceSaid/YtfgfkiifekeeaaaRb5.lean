/- The reference of package batch: Users, Rounds, SameProbes, Same, Light. -/
import Derived.Test.YtfgfkiifekeeaaaRb4
namespace Go.Proofs.Ytfgfkiifekeeaaa
open Go.RowKit Go.Shelf Go.Sort
set_option linter.unusedSimpArgs false
set_option linter.unusedVariables false

theorem users_any (l : List Pb) (z : ByteArray) : (bUsers l).any (fun u => decide (z = u)) = l.any (fun p => decide (p.user = z)) := by
  have key : ∀ k, k ≤ l.length → (bUsers (l.take k)).any (fun u => decide (z = u)) = (l.take k).any (fun p => decide (p.user = z)) := by
    intro k
    induction k with
    | zero => intro _; simp [bUsers]
    | succ k ih =>
      intro h
      have ih := ih (by omega)
      have hk : k < l.length := by omega
      rw [bUsers_snoc l k hk, take_snocL l k hk, List.any_append, ← ih]
      unfold uAdd
      by_cases hin : (bUsers (l.take k)).any (fun u => decide (l[k].user = u)) = true
      · rw [if_pos hin]
        by_cases hz : l[k].user = z
        · subst hz
          rw [hin]; simp
        · simp [hz]
      · rw [if_neg hin, List.any_append]
        congr 1
        by_cases hz : l[k].user = z
        · simp [hz]
        · have : ¬ z = l[k].user := fun h => hz h.symm
          simp [hz, this]
  have := key l.length (Nat.le_refl _)
  rwa [List.take_length] at this
theorem any_snoc (l : List Pb) (z : ByteArray) (k : Nat) (h : k < l.length) : (l.take (k + 1)).any (fun p => decide (p.user = z)) = ((l.take k).any (fun p => decide (p.user = z)) || decide (l[k].user = z)) := by
  rw [take_snocL l k h, List.any_append]; simp
set_option maxRecDepth 1000000 in
set_option maxHeartbeats 8000000 in
theorem ref30_Users_any (A : Option Addr) (c : Nat) (l : List Pb) (a s : Int) (w : World) (hl : l.length ≤ 1000) (ha : Rd w w.heap.size A (pbs l)) :
    Calls Try.prog 24 #[bsV A l.length c a s] w (RowPost w (bUsers l)) := by
  obtain ⟨iT, hi, hz0, hz1, hz2⟩ := info_parts txt_info
  go_enter Try.func24, Try.ntmps24
  go_wp2_with fail
  generalize hV : World.alloc w _ = w1
  have hb : Below w.heap.size w w1 := by subst hV; (repeat (first | with_reducible exact Below.refl _ _ | with_reducible assumption | with_reducible refine Below.drew ?_ | with_reducible refine Below.drewN ?_ _ | with_reducible refine Below.alloc1 ?_ _ | with_reducible refine Below.setCell1 ?_ (by first | omega | (simp; done) | (simp; omega)) _ | with_reducible refine Below.step ?_ (by with_reducible assumption)))
  have k0 : Bk w1 w.heap.size 24 (bsC A l.length c a s) := by subst hV; (repeat (first | with_reducible exact Bk.new' _ _ _ _ (by simp; done) | with_reducible assumption | with_reducible refine Bk.alloc ?_ _ | with_reducible refine Bk.drew ?_ | with_reducible refine Bk.drewN ?_ _ | with_reducible refine Bk.step ?_ (by with_reducible assumption) | with_reducible refine Bk.far ?_ (by first | omega | (simp; done) | (simp; omega)) _))
  clear hV
  have k0_0 := k0.cell 0; have k0_f0 := k0.frozen 0; have k0_1 := k0.cell 1; have k0_f1 := k0.frozen 1; have k0_2 := k0.cell 2; have k0_f2 := k0.frozen 2; simp only [List.set_cons_zero, List.set_cons_succ, List.getElem?_cons_zero, List.getElem?_cons_succ] at k0_0 k0_1 k0_2; have lt_k0 := k0.lt
  have hw1 : w.heap.size < w1.heap.size := lt_k0
  go_loopw [3, 4] (fun v i wr => ∃ (k : Nat) (W : Option Addr) (cW : Nat), k ≤ l.length ∧ i = .int .i64 k ∧ v = .slice W (bUsers (l.take k)).length cW ∧ wr.ownsRow w1.heap.size 9 1 (.slice W (bUsers (l.take k)).length cW) (bUsers (l.take k)).length (txts (bUsers (l.take k))) ∧ (bUsers (l.take k)).length ≤ k ∧ w1.heap.size ≤ wr.heap.size ∧ Bk wr w.heap.size 24 (bsC A l.length c a s) ∧ Below w.heap.size w wr) (fun _ i _ => l.length - (intOf i).toNat)
  case atStart => exact ⟨0, none, 0, Nat.zero_le _, rfl, rfl, ⟨by simp [bUsers], .inl ⟨rfl, rfl⟩⟩, by simp [bUsers], Nat.le_refl _, k0, hb⟩
  case round =>
    (try clear k0_0 k0_f0 k0_1 k0_f1 k0_2 k0_f2 lt_k0)
    clear k0 hb
    obtain ⟨k, W, cW, hk, rfl, rfl, own, hle, hbw, k0, hb⟩ := hrel
    have k0_0 := k0.cell 0; have k0_f0 := k0.frozen 0; have k0_1 := k0.cell 1; have k0_f1 := k0.frozen 1; have k0_2 := k0.cell 2; have k0_f2 := k0.frozen 2; simp only [List.set_cons_zero, List.set_cons_succ, List.getElem?_cons_zero, List.getElem?_cons_succ] at k0_0 k0_1 k0_2; have lt_k0 := k0.lt
    by_cases hlt : k < l.length
    · obtain ⟨ad, rfl, hadb, c1, c2⟩ := (ha.below hb).pb hlt
      have hraw := (ha.below hb).more hb.size
      have HS := hide (bUsers_snoc l k hlt)
      have HLE := bUsers_len (l.take (k + 1))
      rw [List.length_take] at HLE
      replace HLE := hide (show (bUsers (l.take (k + 1))).length ≤ k + 1 by omega)
      have HA := hide (users_any (l.take k) l[k].user)
      generalize hVe : bUsers (l.take (k + 1)) = V at *
      generalize hUe : bUsers (l.take k) = U at *
      replace hVe := hide hVe
      replace hUe := hide hUe
      generalize hx : l[k] = x at *
      replace hx := hide hx
      obtain ⟨y, z⟩ := x
      dsimp only at c1 c2 HA
      obtain ⟨wo, rfl⟩ : ∃ wo : World, wo = wr := ⟨_, rfl⟩
      go_wp2_with fail
      go_loopw [5, 6] (fun v i wr => ∃ (j : Nat), j ≤ k ∧ i = .int .i64 j ∧ v = .bool ((l.take j).any (fun p => decide (p.user = z))) ∧ ∃ n, wo.drewN n = wr) (fun _ i _ => k - (intOf i).toNat)
      case atStart => exact ⟨0, Nat.zero_le _, rfl, rfl, 0, rfl⟩
      case round =>
        obtain ⟨j, hj, rfl, rfl, n, rfl⟩ := hrel
        by_cases hjk : j < k
        · have hjl : j < l.length := by omega
          obtain ⟨ad', e', hadb', d1, d2⟩ := hraw.pb hjl
          cases e'
          have hAS := hide (any_snoc l z j hjl)
          generalize hz : l[j] = t at *
          replace hz := hide hz
          obtain ⟨y', z'⟩ := t
          dsimp only at d1 d2
          have e1 := txt_beq z' z
          have hjI : (j : Int) < (l.length : Int) := by omega
          have hkI : (k : Int) < (l.length : Int) := by omega
          generalize hB : (l.take j).any (fun p => decide (p.user = z)) = B at *
          replace hB := hide hB
          cases B with
          | true =>
            go_wp2_with fail
            go_quiet (fail)
            go_wp2_with fail
            go_roundw
            case rel => exact ⟨j + 1, by omega, by go_num, by rw [hAS.out]; rfl, _, rfl⟩
            case measure => simp [intOf]; omega
          | false =>
            by_cases hzz : z' = z
            · rw [decide_eq_true hzz] at e1
              have hS2 : Hid ((l.take (j + 1)).any (fun p => decide (p.user = z)) = true) := by unfold Hid; rw [hAS.out]; simp [hzz]
              replace hzz := hide hzz
              go_wp2_with fail
              go_quiet (fail)
              go_wp2_with fail
              go_roundw
              case rel => exact ⟨j + 1, by omega, by go_num, by rw [hS2.out], _, rfl⟩
              case measure => simp [intOf]; omega
            · rw [decide_eq_false hzz] at e1
              have hS2 : Hid ((l.take (j + 1)).any (fun p => decide (p.user = z)) = false) := by unfold Hid; rw [hAS.out]; simp [hzz]
              have hzd : ¬ z'.data = z.data := fun h => hzz (ByteArray.ext h)
              replace hzz := hide hzz
              go_wp2_with fail
              go_quiet (fail)
              go_wp2_with fail
              go_roundw
              case rel => exact ⟨j + 1, by omega, by go_num, by rw [hS2.out], _, rfl⟩
              case measure => simp [intOf]; omega
        · obtain rfl : j = k := by omega
          rw [← HA.out]
          clear HA
          replace own := own_drewN own n
          replace hb := hb.drewN n
          have k1 := k0.drewN n
          have c3 : (wo.drewN n).cell? (ad.add (j * 2)) = some (.string y) := c1
          have c4 : (wo.drewN n).cell? { block := (ad.add (j * 2)).block, off := (ad.add (j * 2)).off + 1 } = some (.string z) := c2
          generalize hW : wo.drewN n = w2 at *
          have hsz2 : wo.heap.size ≤ w2.heap.size := by subst hW; exact Nat.le_refl _
          (try clear k0_0 k0_f0 k0_1 k0_f1 k0_2 k0_f2 lt_k0)
          clear hW k0 c1 c2 hraw
          have k1_0 := k1.cell 0; have k1_f0 := k1.frozen 0; have k1_1 := k1.cell 1; have k1_f1 := k1.frozen 1; have k1_2 := k1.cell 2; have k1_f2 := k1.frozen 2; simp only [List.set_cons_zero, List.set_cons_succ, List.getElem?_cons_zero, List.getElem?_cons_succ] at k1_0 k1_1 k1_2; have lt_k1 := k1.lt
          have hlI : (j : Int) < (l.length : Int) := by omega
          cases hin : U.any (fun u => decide (z = u)) with
          | true =>
            have HS2 : Hid (V = U) := by unfold Hid; rw [HS.out]; unfold uAdd; rw [if_pos hin]
            clear hin HS
            go_wp2
            go_roundw
            case rel => exact ⟨j + 1, W, cW, by omega, by go_num, by rw [hVe.out, HS2.out], by rw [hVe.out, HS2.out]; exact own, by rw [hVe.out]; exact HLE.out, by omega, k1, hb⟩
            case measure => simp [intOf]; omega
          | false =>
            have HS2 : Hid (V = U ++ [z]) := by unfold Hid; rw [HS.out]; unfold uAdd; rw [if_neg (by rw [hin]; decide)]
            clear hin HS
            go_wp2_with (at_builtin; refine wpList_app2 rfl (.tmp 37) (.tmp 44) 52 rfl w1.heap.size 9 iT _ 1 16 Try.underlying52 hi hz0 hz1 hz2 rfl (by omega) W U.length cW (txts U) rfl (own.alloc _) ⟨w2.heap.size, 0, none⟩ 1 1 [.string z] rfl rfl (news_one (by simp)) (by simp [Value.oneCell']) (by unfold maxLen; omega) (by omega) (by simp; omega) (by omega) ?_; intro g2 cap w7 own7 hb7 hgr7)
            have hs7 := hb7.size
            simp at hs7
            have k7 := (k1.alloc _).below hb7 (by omega)
            replace hb : Below w.heap.size w w7 := (hb.alloc1 _).trans (hb7.mono (by omega))
            have own8 : w7.ownsRow w1.heap.size 9 1 (.slice (some ⟨g2, 0, none⟩) V.length cap) V.length (txts V) := by
              rw [HS2.out, List.length_append, txts, List.map_append]; exact own7
            have HV : Hid (U.length + 1 = V.length) := by unfold Hid; rw [HS2.out]; simp
            (try clear k1_0 k1_f0 k1_1 k1_f1 k1_2 k1_f2 lt_k1)
            clear own7 k1 c3 c4
            go_wp2
            go_roundw
            case rel => exact ⟨j + 1, some ⟨g2, 0, none⟩, cap, by omega, by go_num, by rw [hVe.out, ← HV.out], by rw [hVe.out]; exact own8, by rw [hVe.out]; exact HLE.out, by omega, k7, hb⟩
            case measure => simp [intOf]; omega
    · have hkl : k = l.length := by omega
      subst hkl
      go_wp2
      go_ret
      exact ⟨W, cW, by show Ending.returned (.slice W (bUsers (l.take l.length)).length cW) = _; rw [List.take_length], by rw [List.take_length] at own; exact own_rd own, hb⟩
end Go.Proofs.Ytfgfkiifekeeaaa
