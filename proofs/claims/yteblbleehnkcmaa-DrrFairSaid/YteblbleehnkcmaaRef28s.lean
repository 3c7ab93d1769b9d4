/- callboylaw28.next: so many sizes, from a place on. -/
import Derived.Test.YteblbleehnkcmaaRef28r
namespace Go.Proofs.Yteblbleehnkcmaa
open Go.RowKit Go.Sort
set_option linter.unusedSimpArgs false
set_option linter.unusedVariables false

/-- the size at a place -/
def nxAt (sizes : List Int) (p : Nat) : Int := if sizes.length = 0 then 100 else 32 + sizes.getD (p % sizes.length) 0 % 97
def nxL (sizes : List Int) (p n : Nat) : List Int := (List.range n).map fun i => nxAt sizes (p + i)
theorem nxL_len (sizes : List Int) (p n : Nat) : (nxL sizes p n).length = n := by unfold nxL; simp
theorem nxL_snoc (sizes : List Int) (p n : Nat) : nxL sizes p (n + 1) = nxL sizes p n ++ [nxAt sizes (p + n)] := by
  unfold nxL; rw [List.range_succ, List.map_append]; rfl
theorem nxAt_in (sizes : List Int) (p : Nat) : 32 ≤ nxAt sizes p ∧ nxAt sizes p ≤ 128 := by
  unfold nxAt
  split
  · omega
  · omega
theorem nxL_in {sizes : List Int} {p n : Nat} : ∀ x ∈ nxL sizes p n, 32 ≤ x ∧ x ≤ 128 := by
  intro x hx
  unfold nxL at hx
  obtain ⟨i, _, rfl⟩ := List.mem_map.1 hx
  exact nxAt_in _ _
set_option maxRecDepth 100000 in
set_option maxHeartbeats 8000000 in
theorem law_next_any (A : Option Addr) (c : Nat) (sizes : List Int) (p n : Nat) (w : World) (hl : sizes.length ≤ 1000) (hp : p ≤ 1000000) (hn : n ≤ 1000) (hb0 : ∀ x ∈ sizes, 0 ≤ x ∧ x ≤ 255) (ha : Rd w w.heap.size A (sizes.map (Value.int .u8))) :
    Calls Try.prog 27 #[.slice A sizes.length c, .int .i64 p, .int .i64 n] w fun e w' => ∃ B d, e = .returned (.slice B n d) ∧ w'.ownsRow w.heap.size 3 1 (.slice B n d) n (ints (nxL sizes p n)) ∧ Below w.heap.size w w' := by
  obtain ⟨iT, hi, hz0, hz1, hz2⟩ := info_parts int_info
  go_enter Try.func27, Try.ntmps27
  go_wp2_with fail
  go_loopw [7, 8] (fun s i wr => ∃ k : Nat, k ≤ n ∧ i = .int .i64 k ∧ (∃ W cW, s = .slice W k cW ∧ wr.ownsRow w.heap.size 3 1 (.slice W k cW) k (ints (nxL sizes p k))) ∧ w.heap.size ≤ wr.heap.size ∧ Below w.heap.size w wr) (fun _ i _ => n - (intOf i).toNat)
  case atStart => exact ⟨0, Nat.zero_le _, rfl, ⟨none, 0, rfl, ⟨rfl, .inl ⟨rfl, rfl⟩⟩⟩, Nat.le_refl _, by (repeat (first | with_reducible exact Below.refl _ _ | with_reducible assumption | with_reducible refine Below.drew ?_ | with_reducible refine Below.drewN ?_ _ | with_reducible refine Below.alloc1 ?_ _ | with_reducible refine Below.setCell1 ?_ (by first | omega | (simp; done) | (simp; omega)) _ | with_reducible refine Below.step ?_ (by with_reducible assumption)))⟩
  case round =>
    obtain ⟨k, hk, rfl, ⟨W, cW, rfl, own⟩, hbw, hb⟩ := hrel
    by_cases hlt : k < n
    · have HSN := hide (show ints (nxL sizes p (k + 1)) = ints (nxL sizes p k) ++ [.int .i64 (nxAt sizes (p + k))] from by rw [nxL_snoc]; simp [ints])
      by_cases h0 : sizes.length = 0
      · have hz : Hid (nxAt sizes (p + k) = 100) := by unfold Hid nxAt; rw [if_pos h0]
        have hg : ¬ (0 < (sizes.length : Int)) := by omega
        clear h0
        go_wp2_with (at_builtin; refine wpList_app2 rfl (.tmp 30) (.tmp 32) 35 rfl w.heap.size 3 iT _ 1 8 Try.underlying35 hi hz0 hz1 hz2 rfl (by omega) W k cW (ints (nxL sizes p k)) rfl (own.alloc _) ⟨wr.heap.size, 0, none⟩ 1 1 [.int .i64 100] rfl rfl (news_at (cs := [_])) (by simp [Value.oneCell']) (by unfold maxLen; omega) (by omega) (by simp; omega) (by omega) ?_; intro g2 cap w7 own7 hb7 hgr7)
        have hs7 := hb7.size
        simp at hs7
        replace hb : Below w.heap.size w w7 := (hb.alloc1 _).trans hb7
        rw [← hz.out, ← HSN.out] at own7
        clear hi hz0 hz1 hz2 iT own hb7 hgr7
        go_wp2
        go_roundw
        case rel => exact ⟨k + 1, by omega, by go_num, ⟨_, cap, rfl, own7⟩, by omega, hb⟩
        case measure => simp [intOf]; omega
      · have hm : (p + k) % sizes.length < sizes.length := Nat.mod_lt _ (by omega)
        have hz : Hid (nxAt sizes (p + k) = 32 + sizes[(p + k) % sizes.length] % 97) := by unfold Hid nxAt; rw [if_neg h0]; simp [hm]
        have hmod : ((p : Int) + (k : Int)).tmod (sizes.length : Int) = (((p + k) % sizes.length : Nat) : Int) := by
          rw [Int.tmod_eq_emod_of_nonneg (by omega)]; push_cast; rfl
        generalize (p + k) % sizes.length = m at *
        obtain ⟨ad, rfl, hadb, hca⟩ := Rd.at_ ha (k := m) (by simpa using hm)
        have hc1 : wr.cell? (ad.add m) = some (.int .u8 sizes[m]) := by rw [hb.cell (by rw [add_block]; exact hadb), hca]; simp
        have hv := hb0 _ (List.getElem_mem hm)
        have hml : (m : Int) < (sizes.length : Int) := by omega
        generalize sizes[m] = v at *
        have hg : 0 < (sizes.length : Int) := by omega
        have hmod2 : v.tmod 97 = v % 97 := Int.tmod_eq_emod_of_nonneg hv.1
        clear hca ha
        go_wp2_with (at_builtin; refine wpList_app2 rfl (.tmp 30) (.tmp 32) 35 rfl w.heap.size 3 iT _ 1 8 Try.underlying35 hi hz0 hz1 hz2 rfl (by omega) W k cW (ints (nxL sizes p k)) rfl (own.alloc _) ⟨wr.heap.size, 0, none⟩ 1 1 [.int .i64 (32 + v % 97)] rfl rfl (news_at (cs := [_])) (by simp [Value.oneCell']) (by unfold maxLen; omega) (by omega) (by simp; omega) (by omega) ?_; intro g2 cap w7 own7 hb7 hgr7)
        have hs7 := hb7.size
        simp at hs7
        replace hb : Below w.heap.size w w7 := (hb.alloc1 _).trans hb7
        rw [← hz.out, ← HSN.out] at own7
        clear hi hz0 hz1 hz2 iT own hb7 hgr7
        go_wp2
        go_roundw
        case rel => exact ⟨k + 1, by omega, by go_num, ⟨_, cap, rfl, own7⟩, by omega, hb⟩
        case measure => simp [intOf]; omega
    · have hkl : k = n := by omega
      subst hkl
      go_wp2
      go_ret
      exact ⟨W, cW, rfl, own, hb⟩
end Go.Proofs.Yteblbleehnkcmaa
