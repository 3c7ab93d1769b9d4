/- The reference of package config: number. -/
import Derived.Test.YtfbllioegeadfaaDoorRc1
namespace Go.Proofs.YtfbllioegeadfaaDoor
open Go.RowKit
set_option linter.unusedSimpArgs false
set_option linter.unusedVariables false

theorem tw_stop (t : Tx) (m : Nat) (hall : (t.take m).all isD = true) (hm : m ≤ 8) (hs : m = 8 ∨ t.length ≤ m ∨ ∃ b, t[m]? = some b ∧ isD b = false) : (t.take 8).takeWhile isD = t.take m := by
  have e : t.take 8 = t.take m ++ (t.drop m).take (8 - m) := by
    rw [← List.take_add]; congr 1; omega
  rw [e, List.takeWhile_append_of_pos (by simpa using hall)]
  have : ((t.drop m).take (8 - m)).takeWhile isD = [] := by
    rcases hs with rfl | hs | ⟨b, hb, hd⟩
    · simp
    · rw [List.drop_eq_nil_of_le hs]; simp
    · obtain ⟨hlt, rfl⟩ := List.getElem?_eq_some_iff.1 hb
      rw [List.drop_eq_getElem_cons hlt]
      cases h8 : 8 - m with
      | zero => simp
      | succ k => rw [List.take_succ_cons, List.takeWhile_cons, hd]; rfl
  rw [this, List.append_nil]
/-- what number tells of the text T that begins at a -/
def NumR (T : Tx) (a : Nat) (e : Ending) : Prop := ∃ m, e = .returned (.tuple #[.int .i64 (match rNum T with | some x => x.1 | none => -1), .int .i64 ((a + m : Nat) : Int)]) ∧ ∀ v r, rNum T = some (v, r) → r = T.drop m ∧ m ≤ T.length
theorem numR_of (T : Tx) (a m : Nat) (e : Ending) (htw : (T.take 8).takeWhile isD = T.take m) (hm : m ≤ T.length)
    (he : e = .returned (.tuple #[.int .i64 (if bad0 (T.take m) then -1 else valT (T.take m)), .int .i64 ((a + m : Nat) : Int)])) : NumR T a e := by
  refine ⟨m, ?_, ?_⟩
  · rw [he]
    unfold rNum
    rw [htw]
    by_cases hb : bad0 (T.take m)
    · rw [if_pos hb, if_pos hb]
    · rw [if_neg hb, if_neg hb]
  · intro v r h
    unfold rNum at h
    rw [htw] at h
    by_cases hb : bad0 (T.take m)
    · rw [if_pos hb] at h; cases h
    · rw [if_neg hb] at h
      injection h with h
      injection h with _ h
      refine ⟨?_, hm⟩
      rw [← h, List.length_take, Nat.min_eq_left hm]
theorem post_ways (a p n : Nat) (f : a < n → Nat) (hap : a ≤ p) : p = a ∨ 7 < p - a ∨ (∃ (h1 : a < n), 1 < p - a ∧ p - a ≤ 7 ∧ f h1 = 48) ∨ (∃ (h1 : a < n), 1 < p - a ∧ p - a ≤ 7 ∧ f h1 ≠ 48) ∨ (p - a = 1 ∨ (1 < p - a ∧ n ≤ a)) := by
  by_cases h0 : p = a
  · exact .inl h0
  by_cases h7 : 7 < p - a
  · exact .inr (.inl h7)
  by_cases h1 : 1 < p - a
  · by_cases hn : a < n
    · by_cases hf : f hn = 48
      · exact .inr (.inr (.inl ⟨hn, h1, by omega, hf⟩))
      · exact .inr (.inr (.inr (.inl ⟨hn, h1, by omega, hf⟩)))
    · exact .inr (.inr (.inr (.inr (.inr ⟨h1, by omega⟩))))
  · exact .inr (.inr (.inr (.inr (.inl (by omega)))))
set_option maxRecDepth 100000 in
set_option maxHeartbeats 8000000 in
theorem r32_number_any (s : ByteArray) (a : Nat) (ha : a ≤ s.size) (hs : s.size ≤ 400) (w : World) : Calls Tryd.prog 33 #[.string s, .int .i64 a] w fun e w' => NumR (s.data.toList.drop a) a e ∧ w = w' := by
  have hT : (s.data.toList.drop a).length = s.size - a := by rw [List.length_drop, list_size]
  have hat : ∀ m (h : a + m < s.size), (s.data.toList.drop a)[m]? = some s[a + m] := fun m h => by rw [List.getElem?_drop]; exact list_at s (a + m) h
  have hN := fun m e htw hm he => numR_of (s.data.toList.drop a) a m e htw hm he
  have hstop := fun m hall hm hs => tw_stop (s.data.toList.drop a) m hall hm hs
  obtain ⟨G, hG⟩ : ∃ G : Ending → Prop, G = NumR (s.data.toList.drop a) a := ⟨_, rfl⟩
  rw [← hG] at hN ⊢
  clear hG
  generalize s.data.toList.drop a = T at *
  go_enter Tryd.func33, Tryd.ntmps33
  go_wp2_with fail
  go_loop [6, 7] (fun n k => ∃ p : Nat, a ≤ p ∧ p ≤ a + 8 ∧ p ≤ s.size ∧ k = .int .i64 (p : Int) ∧ n = .int .i64 (valT (T.take (p - a))) ∧ (T.take (p - a)).all isD = true) (fun _ k => s.size - (intOf k).toNat)
  case atStart => exact ⟨a, by omega, by omega, ha, rfl, by simp [valT], by simp⟩
  case round =>
    obtain ⟨p, hap, hp8, hps, rfl, rfl, hall⟩ := hrel
    have hln : (T.take (p - a)).length = p - a := by rw [List.length_take, hT]; omega
    have hbd := valT_bd (p - a) (T.take (p - a)) hln hall
    have e1 := IntWalk.i64_in ((p : Int) - (a : Int)) (by omega)
    have hpe : ((a + (p - a) : Nat) : Int) = (p : Int) := by omega
    by_cases hlt : p < s.size
    case neg =>
      have hlt' : ¬ (p : Int) < (s.size : Int) := by omega
      have hlt'' : (s.size : Int) ≤ (p : Int) := by omega
      have htw := hide (hstop (p - a) hall (by omega) (.inr (.inl (by omega))))
      clear hstop
      rcases post_ways a p s.size (fun h => (s[a]'h).toNat) hap with q | q | ⟨q1, q2, q3, q4⟩ | ⟨q1, q2, q3, q4⟩ | q
      · have hbad : Hid (bad0 (T.take (p - a))) := .inl (List.eq_nil_of_length_eq_zero (by omega))
        subst q
        have q0i : ((p : Int) == (p : Int)) = true := by simp
        clear hall hbd hat
        go_wp2
        go_ret2
        exact ⟨hN (p - p) _ htw.out (by omega) (by rw [if_pos hbad.out, hpe]; first | rfl | (rw [q]; rfl)), rfl⟩
      · have hbad : Hid (bad0 (T.take (p - a))) := .inr (.inl (by omega))
        have q0 : ¬ p = a := by omega
        have q0i : ((p : Int) == (a : Int)) = false := by simp; omega
        have q7 : (7 : Int) < (p : Int) - (a : Int) := by omega
        clear hall hbd hat
        go_wp2
        go_ret2
        exact ⟨hN (p - a) _ htw.out (by omega) (by rw [if_pos hbad.out, hpe]; first | rfl | (rw [q]; rfl)), rfl⟩
      · have hbad : Hid (bad0 (T.take (p - a))) := .inr (.inr ⟨by omega, by
          rw [List.head?_eq_getElem?, List.getElem?_take, if_pos (by omega), hat 0 (by omega)]
          exact congrArg some (UInt8.toNat_inj.1 q4)⟩)
        have q0 : ¬ p = a := by omega
        have q0i : ((p : Int) == (a : Int)) = false := by simp; omega
        have q7 : ¬ (7 : Int) < (p : Int) - (a : Int) := by omega
        have q7b : (p : Int) - (a : Int) ≤ 7 := by omega
        have q8 : (1 : Int) < (p : Int) - (a : Int) := by omega
        have qa : (a : Int) < (s.size : Int) := by omega
        have q4n : s[a].toNat = 48 := q4
        have q4i : ((s[a].toNat : Int) == 48) = true := by rw [q4n]; rfl
        clear q4 q4n
        clear hall hbd hat
        go_wp2
        go_ret2
        exact ⟨hN (p - a) _ htw.out (by omega) (by rw [if_pos hbad.out, hpe]; first | rfl | (rw [q]; rfl)), rfl⟩
      · have hbad : Hid (¬ bad0 (T.take (p - a))) := by
          rintro (h | h | ⟨h, h2⟩)
          · rw [h] at hln; simp at hln; omega
          · omega
          · rw [List.head?_eq_getElem?, List.getElem?_take, if_pos (by omega), hat 0 (by omega)] at h2
            injection h2 with h2
            exact q4 (congrArg UInt8.toNat h2)
        have q0 : ¬ p = a := by omega
        have q0i : ((p : Int) == (a : Int)) = false := by simp; omega
        have q7 : ¬ (7 : Int) < (p : Int) - (a : Int) := by omega
        have q7b : (p : Int) - (a : Int) ≤ 7 := by omega
        have q8 : (1 : Int) < (p : Int) - (a : Int) := by omega
        have qa : (a : Int) < (s.size : Int) := by omega
        have q4n : s[a].toNat ≠ 48 := q4
        have q4i : ((s[a].toNat : Int) == 48) = false := by rw [beq_eq_false_iff_ne]; omega
        clear q4 q4n
        clear hall hbd hat
        go_wp2
        go_ret2
        exact ⟨hN (p - a) _ htw.out (by omega) (by rw [if_neg hbad.out, hpe]; first | rfl | (rw [q]; rfl)), rfl⟩
      · have q' : p - a = 1 := by omega
        have hbad : Hid (¬ bad0 (T.take (p - a))) := by
          rintro (h | h | ⟨h, h2⟩)
          · rw [h] at hln; simp at hln; omega
          · omega
          · omega
        have q0 : ¬ p = a := by omega
        have q0i : ((p : Int) == (a : Int)) = false := by simp; omega
        have q7 : ¬ (7 : Int) < (p : Int) - (a : Int) := by omega
        have q7b : (p : Int) - (a : Int) ≤ 7 := by omega
        have q8 : ¬ (1 : Int) < (p : Int) - (a : Int) := by omega
        have q8b : (p : Int) - (a : Int) ≤ 1 := by omega
        clear q q'
        clear hall hbd hat
        go_wp2
        go_ret2
        exact ⟨hN (p - a) _ htw.out (by omega) (by rw [if_neg hbad.out, hpe]; first | rfl | (rw [q]; rfl)), rfl⟩
    have hlt' : (p : Int) < (s.size : Int) := by omega
    by_cases h8 : p < a + 8
    case neg =>
      have h8' : ¬ (p : Int) - (a : Int) < 8 := by omega
      have h8'' : (8 : Int) ≤ (p : Int) - (a : Int) := by omega
      have htw := hide (hstop (p - a) hall (by omega) (.inl (by omega)))
      clear hstop
      · have hbad : Hid (bad0 (T.take (p - a))) := .inr (.inl (by omega))
        have q0 : ¬ p = a := by omega
        have q0i : ((p : Int) == (a : Int)) = false := by simp; omega
        have q7 : (7 : Int) < (p : Int) - (a : Int) := by omega
        clear hall hbd hat
        go_wp2
        go_ret2
        exact ⟨hN (p - a) _ htw.out (by omega) (by rw [if_pos hbad.out, hpe]; first | rfl | (rw [q]; rfl)), rfl⟩
    have h8' : (p : Int) - (a : Int) < 8 := by omega
    have hbk := s[p].toNat_lt
    have hpa : T[p - a]? = some s[p] := by
      rw [hat (p - a) (by omega)]
      congr 1
      exact getElem_congr_idx (by omega)
    by_cases hd : isD s[p] = true
    · have hd' := hd
      simp only [isD, Bool.and_eq_true, decide_eq_true_eq] at hd'
      obtain ⟨hd1, hd2⟩ := hd'
      have hd1' : (48 : Int) ≤ (s[p].toNat : Int) := by omega
      have hd2' : (s[p].toNat : Int) ≤ 57 := by omega
      have HS := hide (show T.take (p + 1 - a) = T.take (p - a) ++ [s[p]] by
        rw [show p + 1 - a = (p - a) + 1 by omega, List.take_add_one, hpa]; rfl)
      have hpw : (10 : Int) ^ (p - a) ≤ 100000000 := by
        have h8n : 10 ^ (p - a) ≤ 100000000 := Nat.le_trans (Nat.pow_le_pow_right (by decide : 0 < 10) (show p - a ≤ 8 by omega)) (by decide)
        have := Int.ofNat_le.2 h8n
        simpa using this
      have hb1 : 0 ≤ valT (T.take (p - a)) := hbd.1
      have hb2 : valT (T.take (p - a)) < 100000000 := Int.lt_of_lt_of_le hbd.2 hpw
      have hdd := hide hd
      clear hpa hat hN hstop hbd hpw hd hd1 hd2
      go_wp2
      go_round
      case rel => exact ⟨p + 1, by omega, by omega, by omega, by go_num, by rw [HS.out, valT_snoc], by rw [HS.out, List.all_append, hall]; simp [hdd.out]⟩
      case measure => simp [intOf]; omega
    · have hnd : ((s[p].toNat : Int) < 48) ∨ (57 < (s[p].toNat : Int)) := by
        simp only [isD, Bool.and_eq_true, decide_eq_true_eq, not_and, Nat.not_le] at hd
        omega
      have hdf : isD s[p] = false := by simpa using hd
      have hst := hide (hstop (p - a) hall (by omega) (.inr (.inr ⟨_, hpa, hdf⟩)))
      clear hstop hpa hd hdf
      rcases hnd with hnd | hnd
      · have hnd' : ¬ (48 : Int) ≤ (s[p].toNat : Int) := by omega
        have hstop := hst.out
        have htw := hide (hstop)
        clear hstop
        rcases post_ways a p s.size (fun h => (s[a]'h).toNat) hap with q | q | ⟨q1, q2, q3, q4⟩ | ⟨q1, q2, q3, q4⟩ | q
        · have hbad : Hid (bad0 (T.take (p - a))) := .inl (List.eq_nil_of_length_eq_zero (by omega))
          subst q
          have q0i : ((p : Int) == (p : Int)) = true := by simp
          clear hall hbd hat
          go_wp2
          go_ret2
          exact ⟨hN (p - p) _ htw.out (by omega) (by rw [if_pos hbad.out, hpe]; first | rfl | (rw [q]; rfl)), rfl⟩
        · have hbad : Hid (bad0 (T.take (p - a))) := .inr (.inl (by omega))
          have q0 : ¬ p = a := by omega
          have q0i : ((p : Int) == (a : Int)) = false := by simp; omega
          have q7 : (7 : Int) < (p : Int) - (a : Int) := by omega
          clear hall hbd hat
          go_wp2
          go_ret2
          exact ⟨hN (p - a) _ htw.out (by omega) (by rw [if_pos hbad.out, hpe]; first | rfl | (rw [q]; rfl)), rfl⟩
        · have hbad : Hid (bad0 (T.take (p - a))) := .inr (.inr ⟨by omega, by
            rw [List.head?_eq_getElem?, List.getElem?_take, if_pos (by omega), hat 0 (by omega)]
            exact congrArg some (UInt8.toNat_inj.1 q4)⟩)
          have q0 : ¬ p = a := by omega
          have q0i : ((p : Int) == (a : Int)) = false := by simp; omega
          have q7 : ¬ (7 : Int) < (p : Int) - (a : Int) := by omega
          have q7b : (p : Int) - (a : Int) ≤ 7 := by omega
          have q8 : (1 : Int) < (p : Int) - (a : Int) := by omega
          have qa : (a : Int) < (s.size : Int) := by omega
          have q4n : s[a].toNat = 48 := q4
          have q4i : ((s[a].toNat : Int) == 48) = true := by rw [q4n]; rfl
          clear q4 q4n
          clear hall hbd hat
          go_wp2
          go_ret2
          exact ⟨hN (p - a) _ htw.out (by omega) (by rw [if_pos hbad.out, hpe]; first | rfl | (rw [q]; rfl)), rfl⟩
        · have hbad : Hid (¬ bad0 (T.take (p - a))) := by
            rintro (h | h | ⟨h, h2⟩)
            · rw [h] at hln; simp at hln; omega
            · omega
            · rw [List.head?_eq_getElem?, List.getElem?_take, if_pos (by omega), hat 0 (by omega)] at h2
              injection h2 with h2
              exact q4 (congrArg UInt8.toNat h2)
          have q0 : ¬ p = a := by omega
          have q0i : ((p : Int) == (a : Int)) = false := by simp; omega
          have q7 : ¬ (7 : Int) < (p : Int) - (a : Int) := by omega
          have q7b : (p : Int) - (a : Int) ≤ 7 := by omega
          have q8 : (1 : Int) < (p : Int) - (a : Int) := by omega
          have qa : (a : Int) < (s.size : Int) := by omega
          have q4n : s[a].toNat ≠ 48 := q4
          have q4i : ((s[a].toNat : Int) == 48) = false := by rw [beq_eq_false_iff_ne]; omega
          clear q4 q4n
          clear hall hbd hat
          go_wp2
          go_ret2
          exact ⟨hN (p - a) _ htw.out (by omega) (by rw [if_neg hbad.out, hpe]; first | rfl | (rw [q]; rfl)), rfl⟩
        · have q' : p - a = 1 := by omega
          have hbad : Hid (¬ bad0 (T.take (p - a))) := by
            rintro (h | h | ⟨h, h2⟩)
            · rw [h] at hln; simp at hln; omega
            · omega
            · omega
          have q0 : ¬ p = a := by omega
          have q0i : ((p : Int) == (a : Int)) = false := by simp; omega
          have q7 : ¬ (7 : Int) < (p : Int) - (a : Int) := by omega
          have q7b : (p : Int) - (a : Int) ≤ 7 := by omega
          have q8 : ¬ (1 : Int) < (p : Int) - (a : Int) := by omega
          have q8b : (p : Int) - (a : Int) ≤ 1 := by omega
          clear q q'
          clear hall hbd hat
          go_wp2
          go_ret2
          exact ⟨hN (p - a) _ htw.out (by omega) (by rw [if_neg hbad.out, hpe]; first | rfl | (rw [q]; rfl)), rfl⟩
      · have hnd' : (48 : Int) ≤ (s[p].toNat : Int) := by omega
        have hnd2 : ¬ (s[p].toNat : Int) ≤ 57 := by omega
        have hstop := hst.out
        have htw := hide (hstop)
        clear hstop
        rcases post_ways a p s.size (fun h => (s[a]'h).toNat) hap with q | q | ⟨q1, q2, q3, q4⟩ | ⟨q1, q2, q3, q4⟩ | q
        · have hbad : Hid (bad0 (T.take (p - a))) := .inl (List.eq_nil_of_length_eq_zero (by omega))
          subst q
          have q0i : ((p : Int) == (p : Int)) = true := by simp
          clear hall hbd hat
          go_wp2
          go_ret2
          exact ⟨hN (p - p) _ htw.out (by omega) (by rw [if_pos hbad.out, hpe]; first | rfl | (rw [q]; rfl)), rfl⟩
        · have hbad : Hid (bad0 (T.take (p - a))) := .inr (.inl (by omega))
          have q0 : ¬ p = a := by omega
          have q0i : ((p : Int) == (a : Int)) = false := by simp; omega
          have q7 : (7 : Int) < (p : Int) - (a : Int) := by omega
          clear hall hbd hat
          go_wp2
          go_ret2
          exact ⟨hN (p - a) _ htw.out (by omega) (by rw [if_pos hbad.out, hpe]; first | rfl | (rw [q]; rfl)), rfl⟩
        · have hbad : Hid (bad0 (T.take (p - a))) := .inr (.inr ⟨by omega, by
            rw [List.head?_eq_getElem?, List.getElem?_take, if_pos (by omega), hat 0 (by omega)]
            exact congrArg some (UInt8.toNat_inj.1 q4)⟩)
          have q0 : ¬ p = a := by omega
          have q0i : ((p : Int) == (a : Int)) = false := by simp; omega
          have q7 : ¬ (7 : Int) < (p : Int) - (a : Int) := by omega
          have q7b : (p : Int) - (a : Int) ≤ 7 := by omega
          have q8 : (1 : Int) < (p : Int) - (a : Int) := by omega
          have qa : (a : Int) < (s.size : Int) := by omega
          have q4n : s[a].toNat = 48 := q4
          have q4i : ((s[a].toNat : Int) == 48) = true := by rw [q4n]; rfl
          clear q4 q4n
          clear hall hbd hat
          go_wp2
          go_ret2
          exact ⟨hN (p - a) _ htw.out (by omega) (by rw [if_pos hbad.out, hpe]; first | rfl | (rw [q]; rfl)), rfl⟩
        · have hbad : Hid (¬ bad0 (T.take (p - a))) := by
            rintro (h | h | ⟨h, h2⟩)
            · rw [h] at hln; simp at hln; omega
            · omega
            · rw [List.head?_eq_getElem?, List.getElem?_take, if_pos (by omega), hat 0 (by omega)] at h2
              injection h2 with h2
              exact q4 (congrArg UInt8.toNat h2)
          have q0 : ¬ p = a := by omega
          have q0i : ((p : Int) == (a : Int)) = false := by simp; omega
          have q7 : ¬ (7 : Int) < (p : Int) - (a : Int) := by omega
          have q7b : (p : Int) - (a : Int) ≤ 7 := by omega
          have q8 : (1 : Int) < (p : Int) - (a : Int) := by omega
          have qa : (a : Int) < (s.size : Int) := by omega
          have q4n : s[a].toNat ≠ 48 := q4
          have q4i : ((s[a].toNat : Int) == 48) = false := by rw [beq_eq_false_iff_ne]; omega
          clear q4 q4n
          clear hall hbd hat
          go_wp2
          go_ret2
          exact ⟨hN (p - a) _ htw.out (by omega) (by rw [if_neg hbad.out, hpe]; first | rfl | (rw [q]; rfl)), rfl⟩
        · have q' : p - a = 1 := by omega
          have hbad : Hid (¬ bad0 (T.take (p - a))) := by
            rintro (h | h | ⟨h, h2⟩)
            · rw [h] at hln; simp at hln; omega
            · omega
            · omega
          have q0 : ¬ p = a := by omega
          have q0i : ((p : Int) == (a : Int)) = false := by simp; omega
          have q7 : ¬ (7 : Int) < (p : Int) - (a : Int) := by omega
          have q7b : (p : Int) - (a : Int) ≤ 7 := by omega
          have q8 : ¬ (1 : Int) < (p : Int) - (a : Int) := by omega
          have q8b : (p : Int) - (a : Int) ≤ 1 := by omega
          clear q q'
          clear hall hbd hat
          go_wp2
          go_ret2
          exact ⟨hN (p - a) _ htw.out (by omega) (by rw [if_neg hbad.out, hpe]; first | rfl | (rw [q]; rfl)), rfl⟩
end Go.Proofs.YtfbllioegeadfaaDoor
