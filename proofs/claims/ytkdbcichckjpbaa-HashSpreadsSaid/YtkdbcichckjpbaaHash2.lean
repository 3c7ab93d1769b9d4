/- hash.Spread and its reference. -/
import Derived.Test.YtkdbcichckjpbaaHash
import Derived.Test.YtkdbcichckjpbaaMem
import Derived.Laws.MakeOwn
namespace Go.Proofs.Ytkdbcichckjpbaa
open Go.RowKit
set_option linter.unusedSimpArgs false
set_option linter.unusedVariables false

abbrev strs' (l : List ByteArray) : List Value := l.map Value.string
def bump (l : List Int) (i : Nat) : List Int := l.set i ((l[i]?.getD 0) + 1)
def hSpread (room : Nat) (l : List ByteArray) : List Int := l.foldl (fun acc s => bump acc (hBelow (hOf s.data.toList) room).toNat) (List.replicate room 0)

theorem bump_length (l : List Int) (i : Nat) : (bump l i).length = l.length := by simp [bump]
theorem hSpread_snoc (room : Nat) (l : List ByteArray) (s : ByteArray) : hSpread room (l ++ [s]) = bump (hSpread room l) (hBelow (hOf s.data.toList) room).toNat := by simp [hSpread]
theorem hSpread_length (room : Nat) (l : List ByteArray) : (hSpread room l).length = room := by
  unfold hSpread
  suffices h : ∀ acc : List Int, (l.foldl (fun acc s => bump acc (hBelow (hOf s.data.toList) room).toNat) acc).length = acc.length by rw [h]; simp
  induction l with
  | nil => intro acc; rfl
  | cons a l ih => intro acc; rw [List.foldl_cons, ih, bump_length]
theorem bump_le (l : List Int) (i : Nat) (b : Int) (h : ∀ x ∈ l, 0 ≤ x ∧ x ≤ b) (hb : 0 ≤ b) : ∀ x ∈ bump l i, 0 ≤ x ∧ x ≤ b + 1 := by
  intro x hx
  unfold bump at hx
  rcases List.mem_or_eq_of_mem_set hx with hx | hx
  · have := h x hx; omega
  · subst hx
    by_cases hi : i < l.length
    · have := h l[i] (List.getElem_mem hi)
      rw [List.getElem?_eq_getElem hi]; simp; omega
    · rw [List.getElem?_eq_none (by omega)]; simp; omega
theorem hSpread_le (room : Nat) (l : List ByteArray) : ∀ x ∈ hSpread room l, 0 ≤ x ∧ x ≤ l.length := by
  unfold hSpread
  suffices h : ∀ (acc : List Int) (b : Int), 0 ≤ b → (∀ x ∈ acc, 0 ≤ x ∧ x ≤ b) → ∀ x ∈ (l.foldl (fun acc s => bump acc (hBelow (hOf s.data.toList) room).toNat) acc), 0 ≤ x ∧ x ≤ b + l.length by
    have := h (List.replicate room 0) 0 (by omega) (by intro x hx; rw [List.mem_replicate] at hx; omega)
    simpa using this
  induction l with
  | nil => intro acc b hb h x hx; have := h x hx; simp; omega
  | cons a l ih =>
    intro acc b hb h x hx
    have := ih _ (b + 1) (by omega) (bump_le acc _ b h hb) x hx
    simp; omega
theorem hOf_bd (l : List UInt8) : 0 ≤ hOf l ∧ hOf l ≤ 4294967295 := by
  unfold hOf
  suffices h : ∀ a : Int, 0 ≤ a → a ≤ 4294967295 → 0 ≤ hMore a l ∧ hMore a l ≤ 4294967295 from h _ (by omega) (by omega)
  induction l with
  | nil => intro a h1 h2; exact ⟨h1, h2⟩
  | cons b l ih => intro a h1 h2; exact ih _ (by unfold mix32; rw [IntKind.wrap_u32]; omega) (by unfold mix32; rw [IntKind.wrap_u32]; omega)
theorem hBelow_bd (n : Int) (most : Nat) (h : 1 ≤ most) : 0 ≤ hBelow n most ∧ hBelow n most < most := by
  unfold hBelow; rw [if_neg (by omega)]
  exact ⟨Int.emod_nonneg _ (by omega), Int.emod_lt_of_pos _ (by omega)⟩
theorem take_snoc' {α : Type} (l : List α) (k : Nat) (h : k < l.length) : l.take (k + 1) = l.take k ++ [l[k]] := List.take_succ_eq_append_getElem h

theorem int_info : (Try.prog.info? 3).map (fun i => (i.zero, i.size, i.bytes)) = some (some (.int .i64 0), 1, 8) := by kernel_rfl
theorem hash_Spread_any (A : Option Addr) (c : Nat) (l : List ByteArray) (room : Nat) (hr : room ≤ 256) (hr0 : 1 ≤ room) (w : World) (hl : l.length ≤ 65536) (hs : ∀ s ∈ l, s.size ≤ maxLen) (ha : Rd w w.heap.size A (strs' l)) :
    Calls Try.prog 24 #[.slice A l.length c, .int .i64 room] w fun e w' => e = .returned (.slice (some ⟨w.heap.size, 0, none⟩) room room) ∧ Bk w' w.heap.size 3 ((hSpread room l).map (Value.int .i64)) ∧ Below w.heap.size w w' := by
  obtain ⟨i0, hi, hz, hsz, hby⟩ := info_parts int_info
  have hmk := fun W => run_make1 (P := Try.prog) 37 3 i0 (.int .i64 0) Try.underlying37 hi hz rfl hsz room (by rw [hby]; omega) (by omega) W
  go_enter Try.func24, Try.ntmps24
  go_wp2
  clear hmk
  go_loopw [18] (fun i wr => ∃ k : Nat, k ≤ l.length ∧ i = .int .i64 k ∧ Bk wr w.heap.size 3 ((hSpread room (l.take k)).map (Value.int .i64)) ∧ Below w.heap.size w wr) (fun i _ => l.length - (intOf i).toNat)
  case atStart => exact ⟨0, Nat.zero_le _, rfl, by simpa [hSpread, Bk] using Bk.new w 3 (List.replicate room (.int .i64 0)), (Below.refl _ _).alloc (Nat.le_refl _) _⟩
  case round =>
    obtain ⟨k, hk, rfl, hbk, hbel⟩ := hrel
    by_cases hlt : k < l.length
    · obtain ⟨ad, rfl, hadb, hca⟩ := ha.at_ (k := k) (by simpa using hlt)
      have hc1 : wr.cell? (ad.add k) = some (.string l[k]) := by rw [hbel.cell (by rw [add_block]; exact hadb), hca]; simp
      clear hca
      go_wp2_with fail
      refine (hash_Of_any _ (hs _ (List.getElem_mem hlt)) _).mono ?_; rintro e w1 ⟨rfl, hb1⟩
      have hbel1 := hbel.then_ hb1 hbel.size
      have hbk1 := hbk.below hb1 hbk.lt
      have h1 := hOf_bd l[k].data.toList
      have h2 := hBelow_bd (hOf l[k].data.toList) room hr0
      have h3 := hSpread_length room (l.take k)
      have h4 := hSpread_le room (l.take k)
      have h5 : (l.take k).length ≤ k := List.length_take_le _ _
      clear hbk hbel hc1 hb1 ha
      go_wp2_with fail
      refine (hash_Slot_any _ _ (by omega) (by omega) (by omega) _).mono ?_; rintro e w2 ⟨rfl, rfl⟩
      obtain ⟨i, hi⟩ : ∃ i : Nat, hBelow (hOf l[k].data.toList) room = i := ⟨_, (Int.toNat_of_nonneg h2.1).symm⟩
      have hix : i < (hSpread room (l.take k)).length := by omega
      have hcell : w1.cell? ⟨w.heap.size, i, none⟩ = some (.int .i64 (hSpread room (l.take k))[i]) := by rw [hbk1.cell]; simp [hix]
      have hfr := hbk1.frozen i
      have hv := h4 _ (List.getElem_mem hix)
      rw [hi]
      rw [hi] at h2
      have HI := hide hi
      have HB := hide hbk1
      clear hi h4 hbk1 h3
      generalize hvv : (hSpread room (l.take k))[i] = v at *
      have HV := hide hvv
      clear hvv
      go_wp2
      go_roundw
      case rel =>
        refine ⟨k + 1, by omega, by go_num, ?_, hbel1.setCell (Nat.le_refl _) _⟩
        have e : hSpread room (l.take (k + 1)) = (hSpread room (l.take k)).set i (v + 1) := by
          rw [take_snoc' l k hlt, hSpread_snoc, HI.out, bump, Int.toNat_natCast, List.getElem?_eq_getElem hix, HV.out]; rfl
        rw [e, List.map_set]
        exact HB.out.set_ i _
      case measure => simp [intOf]; omega
    · go_wp2
      go_ret
      exact ⟨rfl, by rwa [List.take_of_length_le (by omega)] at hbk, hbel⟩

theorem rSpread_any (A : Option Addr) (c : Nat) (l : List ByteArray) (room : Nat) (hr : room ≤ 256) (hr0 : 1 ≤ room) (w : World) (hl : l.length ≤ 65536) (hs : ∀ s ∈ l, s.size ≤ maxLen) (ha : Rd w w.heap.size A (strs' l)) :
    Calls Try.prog 25 #[.slice A l.length c, .int .i64 room] w fun e w' => e = .returned (.slice (some ⟨w.heap.size, 0, none⟩) room room) ∧ Bk w' w.heap.size 3 ((hSpread room l).map (Value.int .i64)) ∧ Below w.heap.size w w' := by
  obtain ⟨i0, hi, hz, hsz, hby⟩ := info_parts int_info
  have hmk := fun W => run_make1 (P := Try.prog) 37 3 i0 (.int .i64 0) Try.underlying37 hi hz rfl hsz room (by rw [hby]; omega) (by omega) W
  go_enter Try.func25, Try.ntmps25
  go_wp2
  clear hmk
  go_loopw [6] (fun i wr => ∃ k : Nat, k ≤ l.length ∧ i = .int .i64 k ∧ Bk wr w.heap.size 3 ((hSpread room (l.take k)).map (Value.int .i64)) ∧ Below w.heap.size w wr) (fun i _ => l.length - (intOf i).toNat)
  case atStart => exact ⟨0, Nat.zero_le _, rfl, by simpa [hSpread, Bk] using Bk.new w 3 (List.replicate room (.int .i64 0)), (Below.refl _ _).alloc (Nat.le_refl _) _⟩
  case round =>
    obtain ⟨k, hk, rfl, hbk1, hbel1⟩ := hrel
    by_cases hlt : k < l.length
    · obtain ⟨ad, rfl, hadb, hca⟩ := ha.at_ (k := k) (by simpa using hlt)
      have hc1 : wr.cell? (ad.add k) = some (.string l[k]) := by rw [hbel1.cell (by rw [add_block]; exact hadb), hca]; simp
      have h1 := hOf_bd l[k].data.toList
      have h2 := hBelow_bd (hOf l[k].data.toList) room hr0
      have h3 := hSpread_length room (l.take k)
      have h4 := hSpread_le room (l.take k)
      have h5 : (l.take k).length ≤ k := List.length_take_le _ _
      have hsk := hs _ (List.getElem_mem hlt)
      obtain ⟨i, hi⟩ : ∃ i : Nat, hBelow (hOf l[k].data.toList) room = i := ⟨_, (Int.toNat_of_nonneg h2.1).symm⟩
      have hix : i < (hSpread room (l.take k)).length := by omega
      have hcell : wr.cell? ⟨w.heap.size, i, none⟩ = some (.int .i64 (hSpread room (l.take k))[i]) := by rw [hbk1.cell]; simp [hix]
      have hfr := hbk1.frozen i
      have hv := h4 _ (List.getElem_mem hix)
      rw [hi] at h2
      have HI := hide hi
      have HB := hide hbk1
      generalize hvv : (hSpread room (l.take k))[i] = v at *
      have HV := hide hvv
      clear hca hbk1 hi h4 h3 hvv ha hs
      go_wp2_with fail
      refine (rOf_any _ hsk _).mono ?_; rintro e w1 ⟨rfl, rfl⟩
      go_wp2_with fail
      refine (rSlot_any _ _ (by omega) (by omega) (by omega) _).mono ?_; rintro e w2 ⟨rfl, rfl⟩
      rw [HI.out]
      go_wp2
      go_roundw
      case rel =>
        refine ⟨k + 1, by omega, by go_num, ?_, hbel1.setCell (Nat.le_refl _) _⟩
        have e : hSpread room (l.take (k + 1)) = (hSpread room (l.take k)).set i (v + 1) := by
          rw [take_snoc' l k hlt, hSpread_snoc, HI.out, bump, Int.toNat_natCast, List.getElem?_eq_getElem hix, HV.out]; rfl
        rw [e, List.map_set]
        exact HB.out.set_ i _
      case measure => simp [intOf]; omega
    · go_wp2
      go_ret
      exact ⟨rfl, by rwa [List.take_of_length_le (by omega)] at hbk1, hbel1⟩
theorem hash_Spread_no (A : Option Addr) (n c : Nat) (room : Int) (hr : room < 1 ∨ 256 < room) (w : World) :
    Calls Try.prog 24 #[.slice A n c, .int .i64 room] w fun e w' => e = .returned (.slice none 0 0) ∧ w = w' := by
  rcases hr with hr | hr
  · go_enter Try.func24, Try.ntmps24
    go_wp2
    go_ret
    exact ⟨rfl, rfl⟩
  · have h2 : ¬ room < 1 := by omega
    go_enter Try.func24, Try.ntmps24
    go_wp2
    go_ret
    exact ⟨rfl, rfl⟩
theorem rSpread_no (A : Option Addr) (n c : Nat) (room : Int) (hr : room < 1 ∨ 256 < room) (w : World) :
    Calls Try.prog 25 #[.slice A n c, .int .i64 room] w fun e w' => e = .returned (.slice none 0 0) ∧ w = w' := by
  rcases hr with hr | hr
  · go_enter Try.func25, Try.ntmps25
    go_wp2
    go_ret
    exact ⟨rfl, rfl⟩
  · have h2 : ¬ room < 1 := by omega
    go_enter Try.func25, Try.ntmps25
    go_wp2
    go_ret
    exact ⟨rfl, rfl⟩
end Go.Proofs.Ytkdbcichckjpbaa
