/- Package utf: Next. -/
import Derived.Test.YtfgfkiifekeeaaaUtf
namespace Go.Proofs.Ytfgfkiifekeeaaa
open Go.RowKit Go.Sort
set_option linter.unusedSimpArgs false
set_option linter.unusedVariables false

theorem isE (s : ByteArray) : s.toList.isEmpty = decide (s.size = 0) := by
  rw [← decide_eq_emptyBytes]
  have : s = ByteArray.empty ↔ s.size = 0 := by
    constructor
    · rintro rfl; rfl
    · intro h
      have h2 : s.data.size = 0 := h
      obtain ⟨d⟩ := s
      have h3 : d = #[] := Array.eq_empty_of_size_eq_zero h2
      subst h3; rfl
  simp only [this]
theorem str_cons (s : ByteArray) (h : s.size ≠ 0) : ∃ r, s.data.toList = s[0]'(by omega) :: r ∧ s.size = r.length + 1 := by
  have h2 : s.data.toList ≠ [] := fun e => h (by
    show s.data.size = 0
    rw [← Array.length_toList, e]; rfl)
  obtain ⟨b, r, e⟩ := List.exists_cons_of_ne_nil h2
  have h3 : s.size = r.length + 1 := by
    show s.data.size = _
    rw [← Array.length_toList, e]; rfl
  refine ⟨r, ?_, h3⟩
  have h4 : s[0]'(by omega) = s.data.toList[0]'(by rw [e]; simp) := by simp [ByteArray.getElem_eq_getElem_data]
  rw [h4]
  simp only [e, List.getElem_cons_zero]
theorem ext_list (s : ByteArray) (a b : Nat) : (s.extract a b).data.toList = (s.data.toList.take b).drop a := by
  rw [ByteArray.data_extract, Array.toList_extract, List.extract_eq_drop_take', List.drop_take]
theorem ext_at (s : ByteArray) (a b k : Nat) (h : k < (s.extract a b).size) (h2 : a + k < s.size) : (s.extract a b)[k] = s[a + k] := by
  simp [ByteArray.getElem_eq_getElem_data]
def uBits : Nat → Int
  | 0 => 127
  | 1 => 31
  | 2 => 15
  | _ => 7
def uTop : Nat → Int
  | 0 => 128
  | 1 => 8192
  | 2 => 524288
  | _ => 33554432
set_option maxRecDepth 1000000 in
theorem u_ix (n : Nat) (hn : n < 4) (w : World) : (Instr.index 126 (.agg #[.int .i64 0, .int .u8 0, .int .u8 127, .int .i64 128, .int .u8 192, .int .u8 31, .int .i64 2048, .int .u8 224, .int .u8 15, .int .i64 65536, .int .u8 240, .int .u8 7]) (.int .i64 n)).run Try.prog w = .ok (.agg #[.int .i64 (uFrom n), .int .u8 (uMark n), .int .u8 (uBits n)]) w := by
  obtain rfl | rfl | rfl | rfl : n = 0 ∨ n = 1 ∨ n = 2 ∨ n = 3 := by omega
  all_goals rfl
theorem u_form (n b : Nat) (hn : n < 4) (h : b < 256) : (bits .andNot .u8 (b : Int) (uBits n) != uMark n) = decide (uForm b ≠ some n) := by
  obtain rfl | rfl | rfl | rfl : n = 0 ∨ n = 1 ∨ n = 2 ∨ n = 3 := by omega
  all_goals (revert b; decide +kernel)
theorem u_low (n b : Nat) (hn : n < 4) (h : b < 256) (hf : uForm b = some n) : bits .and .u8 (b : Int) (uBits n) = b - uMark n := by
  revert hf
  obtain rfl | rfl | rfl | rfl : n = 0 ∨ n = 1 ∨ n = 2 ∨ n = 3 := by omega
  all_goals (revert b; decide +kernel)
theorem u_low_bd (n b : Nat) (hn : n < 4) (h : b < 256) (hf : uForm b = some n) : 0 ≤ (b : Int) - uMark n ∧ (b : Int) - uMark n < 128 := by
  revert hf
  obtain rfl | rfl | rfl | rfl : n = 0 ∨ n = 1 ∨ n = 2 ∨ n = 3 := by omega
  all_goals (revert b; decide +kernel)
theorem u_form_lt (b n : Nat) (hf : uForm b = some n) : n < 4 := by
  unfold uForm at hf
  split at hf
  · simp at hf; omega
  split at hf
  · simp at hf
  split at hf
  · simp at hf; omega
  split at hf
  · simp at hf; omega
  split at hf
  · simp at hf; omega
  · simp at hf
theorem u_wf (n : Nat) : 0 ≤ uMark n ∧ uMark n < 256 ∧ 0 ≤ uBits n ∧ uBits n < 256 ∧ 0 ≤ uFrom n ∧ uFrom n ≤ 65536 := by
  rcases n with _ | _ | _ | n <;> simp [uMark, uBits, uFrom]
theorem uTop_step (j : Nat) (hj : j < 3) (c x : Int) (h : c < uTop j) (h0 : 0 ≤ c) (hx : x < 64) : c * 64 + x < uTop (j + 1) ∧ c < 1099511627776 := by
  obtain rfl | rfl | rfl : j = 0 ∨ j = 1 ∨ j = 2 := by omega
  all_goals (simp only [uTop] at h ⊢; omega)
set_option maxRecDepth 100000 in
set_option maxHeartbeats 8000000 in
theorem utf_Next_any (s : ByteArray) (hs : s.size ≤ maxLen) (w : World) :
    Calls Try.prog 72 #[.string s] w fun e w' => e = .returned (.tuple #[.int .i64 (uNext s.data.toList).1, .int .i64 (uNext s.data.toList).2]) ∧ Below w.heap.size w w' := by
  unfold maxLen at hs
  have hcv := fun w s => run_bytes_of_string (P := Try.prog) w 9 76 5 s Try.underlying9 Try.underlying76 Try.underlying5
  by_cases h0 : s.size = 0
  · have bE : s.toList.isEmpty = true := by rw [isE]; simp [h0]
    have hl : s.data.toList = [] := List.eq_nil_of_length_eq_zero (by rw [Array.length_toList]; exact h0)
    go_enter Try.func72, Try.ntmps72
    go_wp2
    go_ret2
    exact ⟨by rw [hl]; rfl, Below.refl _ _⟩
  have bE : s.toList.isEmpty = false := by rw [isE]; simp [h0]
  obtain ⟨r, hl, hsz⟩ := str_cons s h0
  have hbt := (s[0]'(by omega)).toNat_lt
  have hs0 : (0 : Int) < (s.size : Int) := by omega
  rw [hl]
  have HR := hide (fun n (hn : uForm (s[0]'(by omega)).toNat = some n) => show uNext (s[0]'(by omega) :: r) = if r.length < n then (-1, 1) else match uIn ((s[0]'(by omega)).toNat - uMark n) (r.take n) with | none => (-1, 1) | some c => if c < uFrom n ∨ uChar c = false then (-1, 1) else (c, n + 1) by simp only [uNext]; rw [hn]; rfl)
  have HN := hide (fun (hn : uForm (s[0]'(by omega)).toNat = none) => show uNext (s[0]'(by omega) :: r) = (-1, 1) by simp only [uNext]; rw [hn])
  generalize uNext (s[0]'(by omega) :: r) = R at *
  go_enter Try.func72, Try.ntmps72
  go_wp2_with fail
  refine (utf_forms_any _).mono ?_; rintro e w1 ⟨rfl, hb1⟩
  have hF : uCells.toArray = #[.int .i64 0, .int .u8 0, .int .u8 127, .int .i64 128, .int .u8 192, .int .u8 31, .int .i64 2048, .int .u8 224, .int .u8 15, .int .i64 65536, .int .u8 240, .int .u8 7] := rfl
  rw [hF]
  clear hF
  go_wp2_with fail
  go_loopw [12] (fun i wr => ∃ n : Nat, n ≤ 4 ∧ i = .int .i64 n ∧ (∀ m, m < n → uForm (s[0]'(by omega)).toNat ≠ some m) ∧ Below w.heap.size w wr) (fun i _ => 4 - (intOf i).toNat)
  case atStart => exact ⟨0, by omega, rfl, fun m hm => by omega, hb1⟩
  case round =>
    clear hb1
    obtain ⟨n, hn, rfl, hnf, hb⟩ := hrel
    by_cases hlt : n < 4
    case neg =>
      have hfn : uForm (s[0]'(by omega)).toNat = none := by
        cases e : uForm (s[0]'(by omega)).toNat with
        | none => rfl
        | some m => exact absurd e (hnf m (by have := u_form_lt _ _ e; omega))
      go_wp2
      go_ret2
      exact ⟨by rw [HN.out hfn]; rfl, hb⟩
    have hix := u_ix n hlt
    have wf := u_wf n
    have hbf := u_form n _ hlt hbt
    have hbl := u_low n _ hlt hbt
    have hbd := u_low_bd n _ hlt hbt
    go_wp2_with fail
    generalize hV : World.alloc wr _ = w2
    have hy : Below wr.heap.size wr w2 := by subst hV; (repeat (first | with_reducible exact Below.refl _ _ | with_reducible assumption | with_reducible refine Below.drew ?_ | with_reducible refine Below.drewN ?_ _ | with_reducible refine Below.alloc1 ?_ _ | with_reducible refine Below.setCell1 ?_ (by first | omega | (simp; done) | (simp; omega)) _ | with_reducible refine Below.step ?_ (by with_reducible assumption)))
    have k5 : Bk w2 wr.heap.size 125 [.int .i64 (uFrom n), .int .u8 (uMark n), .int .u8 (uBits n)] := by subst hV; (repeat (first | with_reducible exact Bk.new' _ _ _ _ (by simp; done) | with_reducible assumption | with_reducible refine Bk.alloc ?_ _ | with_reducible refine Bk.drew ?_ | with_reducible refine Bk.drewN ?_ _ | with_reducible refine Bk.step ?_ (by with_reducible assumption) | with_reducible refine Bk.far ?_ (by first | omega | (simp; done) | (simp; omega)) _))
    clear hV
    replace hb := hb.step hy
    have k5_0 := k5.cell 0; have k5_f0 := k5.frozen 0; have k5_1 := k5.cell 1; have k5_f1 := k5.frozen 1; have k5_2 := k5.cell 2; have k5_f2 := k5.frozen 2; simp only [List.set_cons_zero, List.set_cons_succ, List.getElem?_cons_zero, List.getElem?_cons_succ] at k5_0 k5_1 k5_2; have lt_k5 := k5.lt
    by_cases hf : uForm (s[0]'(by omega)).toNat = some n
    case neg =>
      rw [decide_eq_true hf] at hbf
      go_region
      go_wp2
      go_roundw
      case rel => exact ⟨n + 1, by omega, by simp, fun m hm => by
        by_cases e : m = n
        · rw [e]; exact hf
        · exact hnf m (by omega), hb.drew⟩
      case measure => simp [intOf]; omega
    rw [decide_eq_false (by simp [hf])] at hbf
    have hR := hide (HR.out n hf)
    have hbl' := hbl hf
    have hbd' := hbd hf
    clear HR HN hnf hbl hbd hix
    by_cases hlen : r.length < n
    · have hR1 := hide (show R = (-1, 1) by rw [hR.out, if_pos hlen])
      have hln : (s.size : Int) ≤ (n : Int) := by omega
      clear hR
      go_region
      go_wp2
      go_ret2
      exact ⟨by rw [hR1.out]; rfl, hb.drew⟩
    have hR1 := hide (show R = match uIn ((s[0]'(by omega)).toNat - uMark n) (r.take n) with | none => (-1, 1) | some c => if c < uFrom n ∨ uChar c = false then (-1, 1) else (c, n + 1) by rw [hR.out, if_neg hlen])
    have hln : (n : Int) < (s.size : Int) := by omega
    clear hR
    go_region
    go_wp2_with fail
    go_region
    clear hy
    have he1 : (((n : Int) + 1).toNat : Nat) = n + 1 := by omega
    go_wp2_with fail
    rw [show min n r.length = n by omega]
    generalize grownCap w2.drew.drew n 0 5 = cap at *
    generalize hV : ((World.alloc w2 _).drew).drew.drew = w3
    have hy : Below w2.heap.size w2 w3 := by subst hV; (repeat (first | with_reducible exact Below.refl _ _ | with_reducible assumption | with_reducible refine Below.drew ?_ | with_reducible refine Below.drewN ?_ _ | with_reducible refine Below.alloc1 ?_ _ | with_reducible refine Below.setCell1 ?_ (by first | omega | (simp; done) | (simp; omega)) _ | with_reducible refine Below.step ?_ (by with_reducible assumption)))
    have hcB : ∀ k x, k < n → r[k]? = some x → w3.cell? ⟨w2.heap.size, k, none⟩ = some (.int .u8 x.toNat) := by
      intro k x h hx
      obtain ⟨hkr, rfl⟩ := List.getElem?_eq_some_iff.1 hx
      subst hV
      show (World.alloc w2 _).cell? _ = _
      have hsz2 : (s.extract 1 (n + 1)).size = n := by simp; omega
      rw [World.cell?_alloc_mark, bytesRow_at _ _ k (by omega), ext_at s 1 (n + 1) k (by omega) (by omega)]
      congr 3
      have h5 : s[1 + k]'(by omega) = s.data.toList[1 + k]'(by rw [hl]; simp; omega) := by simp [ByteArray.getElem_eq_getElem_data]
      rw [h5]
      simp only [hl, Nat.add_comm 1 k, List.getElem_cons_succ]
    clear hV
    replace hb := hb.step hy
    replace k5 := k5.step hy; (try clear k5_0 k5_f0 k5_1 k5_f1 k5_2 k5_f2); have k5_0 := k5.cell 0; have k5_f0 := k5.frozen 0; have k5_1 := k5.cell 1; have k5_f1 := k5.frozen 1; have k5_2 := k5.cell 2; have k5_f2 := k5.frozen 2; simp only [List.set_cons_zero, List.set_cons_succ, List.getElem?_cons_zero, List.getElem?_cons_succ] at k5_0 k5_1 k5_2; (try clear lt_k5); have lt_k5 := k5.lt
    clear hy hcv
    generalize w2.heap.size = gB at *
    generalize (s[0]'(by omega)).toNat = b0 at *
    rw [show decide ((n : Int) < 4) = true from decide_eq_true (by omega)]
    go_loop [6, 40] (fun c k => ∃ (j : Nat) (cv : Int), j ≤ n ∧ k = .int .i64 j ∧ c = .int .i64 cv ∧ uIn (b0 - uMark n) (r.take n) = uIn cv ((r.take n).drop j) ∧ 0 ≤ cv ∧ cv < uTop j) (fun _ k => n - (intOf k).toNat)
    case atStart => exact ⟨0, _, by omega, rfl, rfl, rfl, hbd'.1, hbd'.2⟩
    case round =>
      obtain ⟨j, cv, hj, rfl, rfl, hu, hc0, hc1⟩ := hrel
      by_cases hjn : j < n
      · have hji : (j : Int) < (n : Int) := by omega
        obtain ⟨x, hx⟩ : ∃ x, r[j]? = some x := ⟨_, List.getElem?_eq_getElem (by omega)⟩
        have hcb := hcB j x hjn hx
        have hrb := x.toNat_lt
        have hdr : (r.take n).drop j = x :: (r.take n).drop (j + 1) := by
          obtain ⟨hkr, rfl⟩ := List.getElem?_eq_some_iff.1 hx
          rw [List.drop_eq_getElem_cons (by simp; omega)]
          simp
        rw [hdr] at hu
        have HUU := hide hu
        clear hu hdr hcB hx
        have ts := uTop_step j (by omega) cv ((x.toNat : Int) - 128) hc1 hc0
        by_cases hg : 128 ≤ x.toNat ∧ x.toNat < 192
        · have hbx := b_low x.toNat hrb hg.1 hg.2
          have hjo := b_join cv ((x.toNat : Int) - 128) hc0 (ts (by omega)).2 (by omega) (by omega)
          go_wp2_with fail
          refine (utf_goes_any _ hrb _).mono ?_; rintro e w4 ⟨rfl, rfl⟩
          rw [decide_eq_true hg]
          go_wp2
          go_round
          case rel => exact ⟨j + 1, cv * 64 + ((x.toNat : Int) - 128), by omega, by simp, rfl, by rw [HUU.out, uIn, if_pos hg], by omega, (ts (by omega)).1⟩
          case measure => simp [intOf]; omega
        · have hR2 := hide (show R = (-1, 1) by rw [hR1.out, HUU.out, uIn, if_neg hg])
          clear hR1 HUU
          go_wp2_with fail
          refine (utf_goes_any _ hrb _).mono ?_; rintro e w4 ⟨rfl, rfl⟩
          rw [decide_eq_false hg]
          go_wp2
          go_ret2
          exact ⟨by rw [hR2.out]; rfl, hb⟩
      · obtain rfl : j = n := by omega
        rw [List.drop_eq_nil_of_le (by simp; omega)] at hu
        have hR2 := hide (show R = if cv < uFrom j ∨ uChar cv = false then (-1, 1) else (cv, j + 1) by rw [hR1.out, hu, uIn])
        clear hR1 hu hcB
        by_cases hfr : cv < uFrom j
        · have hR3 := hide (show R = (-1, 1) by rw [hR2.out, if_pos (.inl hfr)])
          clear hR2
          go_wp2
          go_ret2
          exact ⟨by rw [hR3.out]; rfl, hb⟩
        · have hfr2 : uFrom j ≤ cv := by omega
          have hch := fun W => utf_character_any cv W
          cases hcc : uChar cv
          · have hR3 := hide (show R = (-1, 1) by rw [hR2.out, if_pos (.inr hcc)])
            rw [hcc] at hch
            clear hR2 hcc
            go_wp2_with fail
            refine (hch _).mono ?_; rintro e w4 ⟨rfl, rfl⟩
            go_wp2
            go_ret2
            exact ⟨by rw [hR3.out]; rfl, hb⟩
          · have hR3 := hide (show R = (cv, j + 1) by rw [hR2.out, if_neg (by rw [hcc]; simp; omega)])
            rw [hcc] at hch
            clear hR2 hcc
            go_wp2_with fail
            refine (hch _).mono ?_; rintro e w4 ⟨rfl, rfl⟩
            go_wp2
            go_ret2
            exact ⟨by rw [hR3.out]; simp, hb⟩
end Go.Proofs.Ytfgfkiifekeeaaa
