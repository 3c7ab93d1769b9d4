/- Package config: number, in, up; the reference's in. -/
import Derived.Test.YtfbllioegeadfaaDoorRows
import Derived.Test.YtfbllioegeadfaaDoorCfQ
import Derived.Test.YtfbllioegeadfaaDoorMem
namespace Go.Proofs.YtfbllioegeadfaaDoor
open Go.RowKit
set_option linter.unusedSimpArgs false
set_option linter.unusedVariables false

theorem isE (s : ByteArray) : s.toList.isEmpty = decide (s.size = 0) := by
  rw [← decide_eq_emptyBytes]
  have : s = ByteArray.empty ↔ s.size = 0 := by
    constructor
    · rintro rfl; rfl
    · intro h
      have h2 : s.data.size = 0 := h
      obtain ⟨d⟩ := s
      have h3 : d = #[] := Array.eq_empty_of_size_eq_zero h2
      subst h3; rfl
  simp only [this]
theorem list_size (s : ByteArray) : s.data.toList.length = s.size := by rw [Array.length_toList]; rfl
theorem list_zero (s : ByteArray) (h : s.size = 0) : s.data.toList = [] := List.eq_nil_of_length_eq_zero (by rw [list_size]; exact h)
theorem head_at (s : ByteArray) (h : 0 < s.size) : s.data.toList.head? = some s[0] := by
  have h2 : s.data.toList.length = s.size := list_size s
  rw [List.head?_eq_getElem?, List.getElem?_eq_getElem (by omega)]
  simp [ByteArray.getElem_eq_getElem_data]
theorem list_at (s : ByteArray) (k : Nat) (h : k < s.size) : s.data.toList[k]? = some s[k] := by
  have h2 : s.data.toList.length = s.size := list_size s
  rw [List.getElem?_eq_getElem (by omega)]
  simp [ByteArray.getElem_eq_getElem_data]
def cNum (t : Tx) : Int × Bool := match numS t with
  | some n => (n, true)
  | none => (0, false)
theorem valT_snoc (t : Tx) (b : UInt8) : valT (t ++ [b]) = 10 * valT t + ((b.toNat : Int) - 48) := by simp [valT]
theorem valT_bd : ∀ (k : Nat) (t : Tx), t.length = k → t.all isD = true → 0 ≤ valT t ∧ valT t < 10 ^ k := by
  intro k
  induction k with
  | zero => intro t h _; rw [List.eq_nil_of_length_eq_zero h]; decide
  | succ k ih =>
    intro t h ha
    obtain ⟨t', b, rfl⟩ : ∃ t' b, t = t' ++ [b] := by
      rcases List.eq_nil_or_concat t with rfl | ⟨t', b, e⟩
      · simp at h
      · exact ⟨t', b, by simpa using e⟩
    simp only [List.all_append, List.all_cons, List.all_nil, Bool.and_true, Bool.and_eq_true] at ha
    obtain ⟨i1, i2⟩ := ih t' (by simpa using h) ha.1
    rw [valT_snoc]
    have hb := ha.2
    simp only [isD, Bool.and_eq_true, decide_eq_true_eq] at hb
    rw [Int.pow_succ]
    omega
theorem valT_small (t : Tx) (hl : t.length ≤ 7) (ha : t.all isD = true) : 0 ≤ valT t ∧ valT t < 10000000 := by
  obtain ⟨h1, h2⟩ := valT_bd _ t rfl ha
  refine ⟨h1, Int.lt_of_lt_of_le h2 ?_⟩
  have : t.length = 0 ∨ t.length = 1 ∨ t.length = 2 ∨ t.length = 3 ∨ t.length = 4 ∨ t.length = 5 ∨ t.length = 6 ∨ t.length = 7 := by omega
  rcases this with h | h | h | h | h | h | h | h <;> rw [h] <;> decide
theorem bytes_laid (w : World) (s : ByteArray) (cap : Nat) (e : TypeId) (j : Nat) (hj : j < s.size) :
    (World.alloc w (.cells (bytesRow s cap) e ((bytesRow s cap).size, (bytesRow s cap).size + 1))).cell? ⟨w.heap.size, j, none⟩ = some (.int .u8 s[j].toNat) := by
  rw [World.cell?_alloc_mark, bytesRow_at _ _ j hj]
set_option maxRecDepth 100000 in
set_option maxHeartbeats 4000000 in
theorem config_number_any (s : ByteArray) (hs : s.size ≤ maxLen) (w : World) : Calls Tryd.prog 49 #[.string s] w fun e w' =>
    e = .returned (.tuple #[.int .i64 (cNum s.data.toList).1, .bool (cNum s.data.toList).2]) ∧ Below w.heap.size w w' := by
  unfold maxLen at hs
  have hcv := fun w s => run_bytes_of_string (P := Tryd.prog) w 9 91 5 s Tryd.underlying9 Tryd.underlying91 Tryd.underlying5
  have hls := list_size s
  obtain ⟨R, hR⟩ : ∃ R, R = cNum s.data.toList := ⟨_, rfl⟩
  rw [← hR]
  by_cases hz : s.size = 0
  · have bE : s.toList.isEmpty = true := by rw [isE]; simp [hz]
    have hR2 : R = (0, false) := by rw [hR, list_zero s hz]; rfl
    subst hR2
    clear hR hcv
    go_enter Tryd.func49, Tryd.ntmps49
    go_wp2
    go_ret2
    exact ⟨rfl, Below.refl _ _⟩
  have bE : s.toList.isEmpty = false := by rw [isE]; simp [hz]
  by_cases h7 : 7 < s.size
  · have hR2 : R = (0, false) := by rw [hR, cNum, show numS s.data.toList = none by unfold numS; rw [if_pos (.inl (.inr (.inl (by omega))))]]
    have h7' : (7 : Int) < (s.size : Int) := by omega
    subst hR2
    clear hR hcv
    go_enter Tryd.func49, Tryd.ntmps49
    go_wp2
    go_ret2
    exact ⟨rfl, Below.refl _ _⟩
  have h7' : (s.size : Int) ≤ 7 := by omega
  have h0' : 0 < s.size := by omega
  have h0i : (0 : Int) < (s.size : Int) := by omega
  have hbt := s[0].toNat_lt
  by_cases h1 : 1 < s.size ∧ s[0].toNat = 48
  · have hR2 : R = (0, false) := by
      rw [hR, cNum, show numS s.data.toList = none by
        unfold numS
        rw [if_pos (.inl (.inr (.inr ⟨by omega, by rw [head_at s h0']; congr 1; exact UInt8.toNat_inj.1 h1.2⟩)))]]
    obtain ⟨h1a, h1b⟩ := h1
    have h1c : (1 : Int) < (s.size : Int) := by omega
    subst hR2
    clear hR hcv
    go_enter Tryd.func49, Tryd.ntmps49
    go_wp2
    go_ret2
    exact ⟨rfl, Below.refl _ _⟩
  have hgood : ¬ bad0 s.data.toList := by
    unfold bad0
    rintro (h | h | ⟨h, h2⟩)
    · rw [h] at hls; simp at hls; omega
    · omega
    · rw [head_at s h0'] at h2
      injection h2 with h2
      exact h1 ⟨by omega, by rw [h2]; rfl⟩
  have hR1 := hide (show (s.data.toList.all isD = true → R = (valT s.data.toList, true)) ∧ (s.data.toList.all isD = false → R = (0, false)) from
    ⟨fun h => by rw [hR, cNum, numS_of hgood h], fun h => by rw [hR, cNum, show numS s.data.toList = none by unfold numS; rw [if_pos (.inr h)]]⟩)
  clear hR hgood
  go_enter Tryd.func49, Tryd.ntmps49
  have hcase : ((1 : Int) < (s.size : Int) ∧ (s[0].toNat : Int) ≠ 48) ∨ ((s.size : Int) ≤ 1 ∧ ¬ (1 : Int) < (s.size : Int)) := by
    by_cases h1c : 1 < s.size
    · exact .inl ⟨by omega, fun h => h1 ⟨h1c, by omega⟩⟩
    · exact .inr ⟨by omega, by omega⟩
  clear h1
  have h7b : ¬ (7 : Int) < (s.size : Int) := by omega
  rcases hcase with ⟨h1c, h48⟩ | ⟨h1c, h48⟩
  have h48b : ((s[0].toNat : Int) == 48) = false := by simpa using h48
  all_goals
    go_wp2_with fail
    clear hcv
    generalize grownCap w s.size 0 5 = cap at *
    generalize hV : World.alloc w _ = w1
    have hb : Below w.heap.size w w1 := by subst hV; (repeat (first | with_reducible exact Below.refl _ _ | with_reducible assumption | with_reducible refine Below.drew ?_ | with_reducible refine Below.drewN ?_ _ | with_reducible refine Below.alloc1 ?_ _ | with_reducible refine Below.setCell1 ?_ (by first | omega | (simp; done) | (simp; omega)) _ | with_reducible refine Below.step ?_ (by with_reducible assumption)))
    have hc : ∀ k (hk : k < s.size), w1.cell? ⟨w.heap.size, k, none⟩ = some (.int .u8 s[k].toNat) := by
      intro k hk; subst hV; exact bytes_laid w s cap 5 k hk
    clear hV
    go_loop [4, 27] (fun n i => ∃ k : Nat, k ≤ s.size ∧ i = .int .i64 k ∧ n = .int .i64 (valT (s.data.toList.take k)) ∧ (s.data.toList.take k).all isD = true) (fun _ i => s.size - (intOf i).toNat)
    case atStart => exact ⟨0, Nat.zero_le _, rfl, rfl, rfl⟩
    case round =>
      obtain ⟨k, hk, rfl, rfl, hall⟩ := hrel
      have hlen : (s.data.toList.take k).length ≤ 6 ∨ k = s.size := by simp [List.length_take]; omega
      have hbd := valT_small (s.data.toList.take k) (by simp [List.length_take]; omega) hall
      by_cases hlt : k < s.size
      · have g := hc k hlt
        have hki : (k : Int) < (s.size : Int) := by omega
        have HS := hide (take_snoc s k hlt)
        have hbk := s[k].toNat_lt
        by_cases hd : isD s[k] = true
        · have hd' := hd
          simp only [isD, Bool.and_eq_true, decide_eq_true_eq] at hd'
          obtain ⟨hd1, hd2⟩ := hd'
          have hd1' : (48 : Int) ≤ (s[k].toNat : Int) := by omega
          have hd2' : (s[k].toNat : Int) ≤ 57 := by omega
          clear hc hR1
          go_wp2
          go_round
          case rel => exact ⟨k + 1, by omega, by go_num, by rw [HS.out, valT_snoc]; congr 1; omega, by rw [HS.out, List.all_append, hall]; simp [hd]⟩
          case measure => simp [intOf]; omega
        · have hnd : ((s[k].toNat : Int) < 48) ∨ (57 < (s[k].toNat : Int)) := by
            simp only [isD, Bool.and_eq_true, decide_eq_true_eq, not_and, Nat.not_le] at hd
            omega
          have hR2 : R = (0, false) := by
            refine hR1.out.2 ?_
            rw [List.all_eq_false]
            exact ⟨s[k], List.mem_of_getElem? (list_at s k hlt), by simpa using hd⟩
          subst hR2
          clear hc hR1
          rcases hnd with hnd | hnd
          · go_wp2
            go_ret2
            exact ⟨rfl, by (repeat (first | with_reducible exact Below.refl _ _ | with_reducible assumption | with_reducible refine Below.drew ?_ | with_reducible refine Below.drewN ?_ _ | with_reducible refine Below.alloc1 ?_ _ | with_reducible refine Below.setCell1 ?_ (by first | omega | (simp; done) | (simp; omega)) _ | with_reducible refine Below.step ?_ (by with_reducible assumption)))⟩
          · have hnd2 : ¬ (s[k].toNat : Int) < 48 := by omega
            go_wp2
            go_ret2
            exact ⟨rfl, by (repeat (first | with_reducible exact Below.refl _ _ | with_reducible assumption | with_reducible refine Below.drew ?_ | with_reducible refine Below.drewN ?_ _ | with_reducible refine Below.alloc1 ?_ _ | with_reducible refine Below.setCell1 ?_ (by first | omega | (simp; done) | (simp; omega)) _ | with_reducible refine Below.step ?_ (by with_reducible assumption)))⟩
      · obtain rfl : k = s.size := by omega
        have hR2 := hide (hR1.out.1 (by rw [← hls, List.take_length] at hall; exact hall))
        have hva : s.data.toList.take s.size = s.data.toList := by rw [← hls]; exact List.take_length
        rw [hva] at *
        clear hR1 hc
        go_wp2
        go_ret2
        exact ⟨by rw [hR2.out]; rfl, by (repeat (first | with_reducible exact Below.refl _ _ | with_reducible assumption | with_reducible refine Below.drew ?_ | with_reducible refine Below.drewN ?_ _ | with_reducible refine Below.alloc1 ?_ _ | with_reducible refine Below.setCell1 ?_ (by first | omega | (simp; done) | (simp; omega)) _ | with_reducible refine Below.step ?_ (by with_reducible assumption)))⟩
end Go.Proofs.YtfbllioegeadfaaDoor
