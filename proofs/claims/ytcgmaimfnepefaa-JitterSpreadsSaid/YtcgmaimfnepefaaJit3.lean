/- jitter.Spread. -/
import Derived.Test.YtcgmaimfnepefaaJit
namespace Go.Proofs.Ytcgmaimfnepefaa
open Go.RowKit
set_option linter.unusedSimpArgs false
set_option linter.unusedVariables false

theorem int_info : (Try.prog.info? 3).map (fun i => (i.zero, i.size, i.bytes)) = some (some (.int .i64 0), 1, 8) := by kernel_rfl
def bump (l : List Int) (i : Nat) : List Int := l.set i ((l[i]?.getD 0) + 1)
def jStep (a b : Int) (acc : List Int) (n : Int) : List Int := if jIn n a b then bump acc (n - a).toNat else acc
def jSp (a b : Int) (W : Nat) (l : List Int) : List Int := l.foldl (jStep a b) (List.replicate W 0)
theorem jSp_snoc (a b : Int) (W : Nat) (l : List Int) (n : Int) : jSp a b W (l ++ [n]) = jStep a b (jSp a b W l) n := by simp [jSp]
theorem jStep_length (a b : Int) (acc : List Int) (n : Int) : (jStep a b acc n).length = acc.length := by unfold jStep bump; split <;> simp
theorem jSp_length (a b : Int) (W : Nat) (l : List Int) : (jSp a b W l).length = W := by
  unfold jSp
  suffices h : ∀ acc : List Int, (l.foldl (jStep a b) acc).length = acc.length by rw [h]; simp
  induction l with
  | nil => intro acc; rfl
  | cons x l ih => intro acc; rw [List.foldl_cons, ih, jStep_length]
theorem bump_le (l : List Int) (i : Nat) (b : Int) (h : ∀ x ∈ l, 0 ≤ x ∧ x ≤ b) (hb : 0 ≤ b) : ∀ x ∈ bump l i, 0 ≤ x ∧ x ≤ b + 1 := by
  intro x hx
  unfold bump at hx
  rcases List.mem_or_eq_of_mem_set hx with hx | hx
  · have := h x hx; omega
  · subst hx
    by_cases hi : i < l.length
    · have := h l[i] (List.getElem_mem hi)
      rw [List.getElem?_eq_getElem hi]; simp; omega
    · rw [List.getElem?_eq_none (by omega)]; simp; omega
theorem jStep_le (a c : Int) (l : List Int) (n b : Int) (h : ∀ x ∈ l, 0 ≤ x ∧ x ≤ b) (hb : 0 ≤ b) : ∀ x ∈ jStep a c l n, 0 ≤ x ∧ x ≤ b + 1 := by
  unfold jStep; split
  · exact bump_le l _ b h hb
  · intro x hx; have := h x hx; omega
theorem jSp_le (a c : Int) (W : Nat) (l : List Int) : ∀ x ∈ jSp a c W l, 0 ≤ x ∧ x ≤ l.length := by
  unfold jSp
  suffices h : ∀ (acc : List Int) (b : Int), 0 ≤ b → (∀ x ∈ acc, 0 ≤ x ∧ x ≤ b) → ∀ x ∈ l.foldl (jStep a c) acc, 0 ≤ x ∧ x ≤ b + l.length by
    have := h (List.replicate W 0) 0 (by omega) (by intro x hx; rw [List.mem_replicate] at hx; omega)
    simpa using this
  induction l with
  | nil => intro acc b hb h x hx; have := h x hx; simp; omega
  | cons y l ih =>
    intro acc b hb h x hx
    have := ih _ (b + 1) (by omega) (jStep_le a c acc _ b h hb) x hx
    simp; omega
theorem take_snoc' {α : Type} (l : List α) (k : Nat) (h : k < l.length) : l.take (k + 1) = l.take k ++ [l[k]] := List.take_succ_eq_append_getElem h

theorem jitter_Spread_no {lo hi : Nat → Int} {level : Int} (h : jMay lo hi level = false) (A : Option Addr) (n c : Nat) (w : World) :
    Calls Try.prog 7 #[confV lo hi, .int .i64 level, .slice A n c] w fun e w' => e = .returned (.slice none 0 0) ∧ Below w.heap.size w w' := by
  go_enter Try.func7, Try.ntmps7
  go_wp2_with fail
  refine (jitter_ends_no h _).mono ?_; rintro e w2 ⟨rfl, hb2⟩
  go_wp2_with fail
  go_ret
  exact ⟨rfl, by (repeat (first | with_reducible exact Below.refl _ _ | with_reducible assumption | with_reducible refine Below.drew ?_ | with_reducible refine Below.drewN ?_ _ | with_reducible refine Below.alloc1 ?_ _ | with_reducible refine Below.setCell1 ?_ (by first | omega | (simp; done) | (simp; omega)) _ | with_reducible refine Below.step ?_ (by with_reducible assumption)))⟩
set_option maxHeartbeats 1000000 in
theorem jitter_Spread_yes {lo hi : Nat → Int} {level : Int} {k : Nat} (h : jCheck lo hi = 0) (hk : k < 4) (hl : level = k) (A : Option Addr) (c : Nat) (l : List Int) (hlen : l.length ≤ 65536) (w : World) (ha : Rd w w.heap.size A (l.map (Value.int .i64))) :
    Calls Try.prog 7 #[confV lo hi, .int .i64 level, .slice A l.length c] w fun e w' => ∃ g W : Nat, e = .returned (.slice (some ⟨g, 0, none⟩) W W) ∧ (W : Int) = hi k - lo k + 1 ∧ Bk w' g 3 ((jSp (lo k) (hi k) W l).map (Value.int .i64)) ∧ w.heap.size ≤ g ∧ Below w.heap.size w w' := by
  have hr := jCheck_t h hk
  obtain ⟨W, hW⟩ : ∃ W : Nat, (W : Int) = hi k - lo k + 1 := ⟨(hi k - lo k + 1).toNat, by omega⟩
  obtain ⟨i0, hi0, hz, hsz, hby⟩ := info_parts int_info
  have hmk : ∀ V, _ := fun V => run_make1 (P := Try.prog) 25 3 i0 (.int .i64 0) Try.underlying25 hi0 hz rfl hsz W (by rw [hby]; omega) (by omega) V
  have HW := hide hW
  rw [hW] at hmk
  clear hW
  generalize hLO : lo k = L at *
  generalize hHI : hi k = U at *
  have hye := fun w => jitter_ends_yes h hk hl w
  rw [hLO, hHI] at hye
  have HYE := hide hye
  clear hye hLO hHI hl
  go_enter Try.func7, Try.ntmps7
  go_wp2_with fail
  refine (HYE.out _).mono ?_; rintro e w2 ⟨rfl, hb2⟩
  go_wp2_with fail
  clear hmk
  generalize hV : World.alloc w2 _ = w3
  have hbel : Below w.heap.size w w3 := by subst hV; (repeat (first | with_reducible exact Below.refl _ _ | with_reducible assumption | with_reducible refine Below.drew ?_ | with_reducible refine Below.drewN ?_ _ | with_reducible refine Below.alloc1 ?_ _ | with_reducible refine Below.setCell1 ?_ (by first | omega | (simp; done) | (simp; omega)) _ | with_reducible refine Below.step ?_ (by with_reducible assumption)))
  have k0 : Bk w3 w2.heap.size 3 ((jSp L U W []).map (Value.int .i64)) := by subst hV; simpa [jSp, Bk] using Bk.new w2 3 (List.replicate W (.int .i64 0))
  have hz2 : w.heap.size < w2.heap.size := by have := hb2.size; simp at this; omega
  generalize w2.heap.size = g at *
  clear hV hb2
  go_loopw [29] (fun i wr => ∃ j : Nat, j ≤ l.length ∧ i = .int .i64 j ∧ Bk wr g 3 ((jSp L U W (l.take j)).map (Value.int .i64)) ∧ Below w.heap.size w wr) (fun i _ => l.length - (intOf i).toNat)
  case atStart => exact ⟨0, Nat.zero_le _, rfl, k0, hbel⟩
  case round =>
    obtain ⟨j, hj, rfl, hbk, hbr⟩ := hrel
    clear k0 hbel
    by_cases hlt : j < l.length
    · obtain ⟨ad, rfl, hadb, hca⟩ := ha.at_ (k := j) (by simpa using hlt)
      have hc1 : wr.cell? (ad.add j) = some (.int .i64 l[j]) := by rw [hbr.cell (by rw [add_block]; exact hadb), hca]; simp
      have HS := hide (take_snoc' l j hlt)
      clear hca
      generalize l[j] = n at *
      cases hin : jIn n L U
      · go_wp2_with fail
        refine (jitter_in_is hin _).mono ?_; rintro e w' ⟨rfl, rfl⟩
        go_wp2_with fail
        go_roundw
        case rel => exact ⟨j + 1, by omega, by go_num, by rw [HS.out, jSp_snoc, jStep, hin]; exact hbk, hbr⟩
        case measure => simp [intOf]; omega
      · have hin' := jIn_t hin
        have h3 := jSp_length L U W (l.take j)
        obtain ⟨i, hi⟩ : ∃ i : Nat, n - L = i := ⟨(n - L).toNat, by omega⟩
        have hWo := HW.out
        have hix : i < (jSp L U W (l.take j)).length := by omega
        have hv := jSp_le L U W (l.take j) _ (List.getElem_mem hix)
        have h5 : (l.take j).length ≤ j := List.length_take_le _ _
        have hcell : wr.cell? ⟨g, i, none⟩ = some (.int .i64 (jSp L U W (l.take j))[i]) := by rw [hbk.cell]; simp [hix]
        have hfr := hbk.frozen i
        have HB := hide hbk
        have HE : Hid (jSp L U W (l.take (j + 1)) = (jSp L U W (l.take j)).set i ((jSp L U W (l.take j))[i] + 1)) := by
          rw [HS.out, jSp_snoc, jStep, hin, if_pos rfl, hi, Int.toNat_natCast, bump, List.getElem?_eq_getElem hix]; exact rfl
        have HI := hide hi
        have hiW : i < W := by omega
        generalize hvv : (jSp L U W (l.take j))[i] = v at *
        clear hvv hbk h3 hi
        obtain rfl : n = L + i := by have := HI.out; omega
        have hidx : (L + (i : Int) - L).toNat = i := by omega
        go_wp2_with fail
        refine (jitter_in_is hin _).mono ?_; rintro e w' ⟨rfl, rfl⟩
        go_wp2_with fail
        go_roundw
        case rel =>
          refine ⟨j + 1, by omega, by go_num, ?_, hbr.setCell (by dsimp only; omega) _⟩
          rw [HE.out, List.map_set]
          exact HB.out.set_ i _
        case measure => simp [intOf]; omega
    · go_wp2_with fail
      go_ret
      exact ⟨g, W, rfl, HW.out, by rwa [List.take_of_length_le (by omega)] at hbk, by omega, hbr⟩
end Go.Proofs.Ytcgmaimfnepefaa
