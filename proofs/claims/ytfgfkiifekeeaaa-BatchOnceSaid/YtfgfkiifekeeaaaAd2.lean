/- Package addr: host. -/
import Derived.Test.YtfgfkiifekeeaaaAd1
namespace Go.Proofs.Ytfgfkiifekeeaaa
open Go.RowKit Go.Shelf
set_option linter.unusedSimpArgs false
set_option linter.unusedVariables false

theorem headD_at (s : ByteArray) (h : 0 < s.size) : s.data.toList.headD 0 = s[0] := by
  obtain ⟨r, hl, _⟩ := str_cons s (by omega)
  rw [hl]; rfl
theorem getLastD_at (s : ByteArray) (h : 0 < s.size) : s.data.toList.getLastD 0 = s[s.size - 1] := by
  have hne := list_ne s (by omega)
  rw [List.getLastD_eq_getLast?, List.getLast?_eq_some_getLast hne, Option.getD_some, List.getLast_eq_getElem]
  simp [ByteArray.getElem_eq_getElem_data, list_size]
theorem bytes_laid (w : World) (s : ByteArray) (cap : Nat) (e : TypeId) (j : Nat) (x : UInt8) (hj : s.data.toList[j]? = some x) :
    (World.alloc w (.cells (bytesRow s cap) e ((bytesRow s cap).size, (bytesRow s cap).size + 1))).cell? ⟨w.heap.size, j, none⟩ = some (.int .u8 x.toNat) := by
  obtain ⟨hlt, rfl⟩ := List.getElem?_eq_some_iff.1 hj
  rw [list_size] at hlt
  rw [World.cell?_alloc_mark, bytesRow_at _ _ j hlt]
  simp [ByteArray.getElem_eq_getElem_data]
set_option maxRecDepth 100000 in
set_option maxHeartbeats 4000000 in
theorem addr_host_any (s : ByteArray) (hs : s.size ≤ 1000000) (w : World) (hm : MW w) : Calls Try.prog 75 #[.string s] w fun e w' => e = .returned (.bool (aHost s.data.toList)) ∧ Below w.heap.size w w' := by
  have hcv := fun w s => run_bytes_of_string (P := Try.prog) w 9 76 5 s Try.underlying9 Try.underlying76 Try.underlying5
  obtain ⟨R, hR⟩ : ∃ R, R = aHost s.data.toList := ⟨_, rfl⟩
  rw [← hR]
  by_cases hz : s.size = 0
  · have bE : s.toList.isEmpty = true := by rw [isE]; simp [hz]
    have hR2 : R = false := by rw [hR, size_list0 s hz]; rfl
    subst hR2
    clear hR
    go_enter Try.func75, Try.ntmps75
    go_wp2_with fail
    go_ret
    exact ⟨rfl, Below.refl _ _⟩
  have bE : s.toList.isEmpty = false := by rw [isE]; simp [hz]
  have hz1 : 0 < s.size := by omega
  have hz2 : (0 : Int) < (s.size : Int) := by omega
  have hz3 : (s.size : Int) - 1 < (s.size : Int) := by omega
  have hz4 : 0 ≤ (s.size : Int) - 1 := by omega
  have hz5 : ((s.size : Int) - 1).toNat = s.size - 1 := by omega
  have hl : s.data.toList.isEmpty = false := by
    cases h : s.data.toList with
    | nil => exact absurd h (list_ne s hz)
    | cons => rfl
  unfold aHost at hR
  rw [hl, headD_at s hz1, getLastD_at s hz1] at hR
  have k0 := fun W => addr_letter_any s[0] W
  have k1 := fun W => addr_letter_any s[s.size - 1] W
  obtain ⟨m, hm⟩ := hm
  have k2 := Try.strings_Contains s ⟨#[46, 46]⟩ m w (by omega) hm
  have e2 : (⟨#[46, 46]⟩ : ByteArray).data.toList = [46, 46] := rfl
  rw [e2] at k2
  clear e2 hl
  cases h0 : aLet s[0] with
  | false =>
    have hR2 : R = false := by rw [hR, h0]; rfl
    subst hR2
    rw [h0] at k0
    clear hR h0
    go_enter Try.func75, Try.ntmps75
    go_wp2_with fail
    refine (k0 _).mono ?_; rintro e w1 ⟨rfl, rfl⟩
    go_wp2_with fail
    go_ret
    exact ⟨rfl, Below.refl _ _⟩
  | true =>
  rw [h0] at k0 hR
  clear h0
  cases h1 : aLet s[s.size - 1] with
  | false =>
    have hR2 : R = false := by rw [hR, h1]; rfl
    subst hR2
    rw [h1] at k1
    clear hR h1
    go_enter Try.func75, Try.ntmps75
    go_wp2_with fail
    refine (k0 _).mono ?_; rintro e w1 ⟨rfl, rfl⟩
    go_wp2_with fail
    refine (k1 _).mono ?_; rintro e w1 ⟨rfl, rfl⟩
    go_wp2_with fail
    go_ret
    exact ⟨rfl, Below.refl _ _⟩
  | true =>
  rw [h1] at k1 hR
  clear h1
  cases h2 : Lib.contains s.data.toList [46, 46] with
  | true =>
    have hR2 : R = false := by rw [hR, h2]; rfl
    subst hR2
    rw [h2] at k2
    clear hR h2
    go_enter Try.func75, Try.ntmps75
    go_wp2_with fail
    refine (k0 _).mono ?_; rintro e w1 ⟨rfl, rfl⟩
    go_wp2_with fail
    refine (k1 _).mono ?_; rintro e w1 ⟨rfl, rfl⟩
    go_wp2_with fail
    refine k2.mono ?_; rintro e w1 ⟨rfl, rfl⟩
    go_wp2_with fail
    go_ret
    exact ⟨rfl, Below.refl _ _⟩
  | false =>
  rw [h2] at k2 hR
  clear h2
  have hR2 := hide (show R = s.data.toList.all aHostB from hR)
  clear hR
  go_enter Try.func75, Try.ntmps75
  go_wp2_with fail
  refine (k0 _).mono ?_; rintro e w1 ⟨rfl, rfl⟩
  go_wp2_with fail
  refine (k1 _).mono ?_; rintro e w1 ⟨rfl, rfl⟩
  go_wp2_with fail
  refine k2.mono ?_; rintro e w1 ⟨rfl, rfl⟩
  clear k0 k1 k2
  go_wp2_with fail
  generalize grownCap w1 s.size 0 5 = cap at *
  generalize hV : (World.alloc w1 _).drew = w2
  have hb : Below w1.heap.size w1 w2 := by subst hV; (repeat (first | with_reducible exact Below.refl _ _ | with_reducible assumption | with_reducible refine Below.drew ?_ | with_reducible refine Below.drewN ?_ _ | with_reducible refine Below.alloc1 ?_ _ | with_reducible refine Below.setCell1 ?_ (by first | omega | (simp; done) | (simp; omega)) _ | with_reducible refine Below.step ?_ (by with_reducible assumption)))
  have hc0 : ∀ j x, s.data.toList[j]? = some x → w2.cell? ⟨w1.heap.size, j, none⟩ = some (.int .u8 x.toNat) := by
    intro j x hj
    subst hV
    exact bytes_laid w1 s cap _ j x hj
  clear hV hcv
  go_loopw [29] (fun i wr => ∃ k : Nat, k ≤ s.size ∧ i = .int .i64 k ∧ (s.data.toList.take k).all aHostB = true ∧ wr = w2) (fun i _ => s.size - (intOf i).toNat)
  case atStart => exact ⟨0, by omega, rfl, rfl, rfl⟩
  case round =>
    obtain ⟨k, hk, rfl, hall, rfl⟩ := hrel
    replace hall := hide hall
    by_cases hlt : k < s.size
    · have hltI : (k : Int) < (s.size : Int) := by omega
      obtain ⟨x, hx⟩ : ∃ x, s.data.toList[k]? = some x := ⟨_, List.getElem?_eq_getElem (by rw [list_size]; exact hlt)⟩
      have hck := hc0 k x hx
      have HC := hide hc0
      have hx2 := hide hx
      have kl := fun W => addr_letter_any x W
      have hxb := x.toNat_lt
      have hnext : aHostB x = true → (s.data.toList.take (k + 1)).all aHostB = true := fun h => by
        rw [List.take_add_one, hx, List.all_append, hall.out]; simp [h]
      replace hnext := hide hnext
      have hstop : aHostB x = false → s.data.toList.all aHostB = false := fun h => by
        cases e : s.data.toList.all aHostB with
        | false => rfl
        | true =>
          rw [List.all_eq_true] at e
          rw [e x (List.mem_of_getElem? hx)] at h; cases h
      replace hstop := hide hstop
      clear hc0 hx
      have hB := hide (show aHostB x = (aLet x || decide (x.toNat = 46) || decide (x.toNat = 45)) from rfl)
      cases hlx : aLet x with
      | true =>
        rw [hlx] at kl
        have hn2 := hide (hnext.out (by rw [hB.out, hlx]; rfl))
        clear hlx
        go_wp2_with fail
        with_reducible refine (kl _).mono ?_; rintro e w3 ⟨rfl, rfl⟩
        go_wp2_with fail
        go_roundw
        case rel => exact ⟨k + 1, by omega, by simp, hn2.out, by first | rfl | trivial⟩
        case measure => simp [intOf]; omega
      | false =>
        rw [hlx] at kl
        by_cases h46 : x.toNat = 46
        · have hn2 := hide (hnext.out (by rw [hB.out, hlx, decide_eq_true h46]; rfl))
          have hI : ((x.toNat : Int) != 46) = false := by simp; omega
          clear hlx h46
          go_wp2_with fail
          with_reducible refine (kl _).mono ?_; rintro e w3 ⟨rfl, rfl⟩
          go_wp2_with fail
          go_roundw
          case rel => exact ⟨k + 1, by omega, by simp, hn2.out, by first | rfl | trivial⟩
          case measure => simp [intOf]; omega
        have hI : ((x.toNat : Int) != 46) = true := by rw [bne_iff_ne]; omega
        by_cases h45 : x.toNat = 45
        · have hn2 := hide (hnext.out (by rw [hB.out, hlx, decide_eq_true h45, Bool.or_true]))
          have hI2 : ((x.toNat : Int) != 45) = false := by simp; omega
          clear hlx h45
          go_wp2_with fail
          with_reducible refine (kl _).mono ?_; rintro e w3 ⟨rfl, rfl⟩
          go_wp2_with fail
          go_roundw
          case rel => exact ⟨k + 1, by omega, by simp, hn2.out, by first | rfl | trivial⟩
          case measure => simp [intOf]; omega
        · have hI2 : ((x.toNat : Int) != 45) = true := by rw [bne_iff_ne]; omega
          have hR3 := hide (show R = false by rw [hR2.out, hstop.out (by rw [hB.out, hlx, decide_eq_false h46, decide_eq_false h45]; rfl)])
          clear hlx
          go_wp2_with fail
          with_reducible refine (kl _).mono ?_; rintro e w3 ⟨rfl, rfl⟩
          go_wp2_with fail
          go_ret
          exact ⟨by rw [hR3.out]; rfl, hb⟩
    · obtain rfl : k = s.size := by omega
      have ha := hall.out
      rw [List.take_of_length_le (by rw [list_size]; exact Nat.le_refl _)] at ha
      have hR3 := hide (show R = true by rw [hR2.out, ha])
      clear ha
      go_wp2_with fail
      go_ret
      exact ⟨by rw [hR3.out]; rfl, hb⟩
end Go.Proofs.Ytfgfkiifekeeaaa
