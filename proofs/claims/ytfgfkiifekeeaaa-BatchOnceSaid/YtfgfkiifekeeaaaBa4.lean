/- Package batch: Users, Rounds, Same; rows of texts. -/
import Derived.Test.YtfgfkiifekeeaaaBa3
namespace Go.Proofs.Ytfgfkiifekeeaaa
open Go.RowKit Go.Shelf
set_option linter.unusedSimpArgs false
set_option linter.unusedVariables false

abbrev txts (l : List ByteArray) : List Value := l.map Value.string
theorem txts_get (l : List ByteArray) (k : Nat) (h : k < l.length) : (txts l)[k]'(by simpa using h) = .string l[k] := by simp
theorem txt_beq (x y : ByteArray) : (x.toList == y.toList) = decide (x = y) := by
  rw [str_beq]; simp only [ba_list]
theorem txt_bne (x y : ByteArray) : (x.toList != y.toList) = !decide (x = y) := by
  rw [bne, txt_beq]
theorem txts_one (l : List ByteArray) : ∀ u ∈ txts l, u.oneCell' = true := by
  intro u hu
  obtain ⟨x, _, rfl⟩ := List.mem_map.1 hu
  rfl
theorem txt_Index (A : Option Addr) (c : Nat) (l : List ByteArray) (v : ByteArray) (w : World) (hl : l.length ≤ maxLen) (ha : Rd w w.heap.size A (txts l)) :
    Calls Try.prog 46 #[.slice A l.length c, .string v] w fun e w' => e = .returned (.int .i64 (idxI (fun u => decide (v = u)) l)) ∧ ∃ n, w.drewN n = w' := by
  unfold maxLen at hl
  go_enter Try.func46, Try.ntmps46
  go_wp2
  go_loopw [5, 8] (fun _ i wr => ∃ k : Nat, k ≤ l.length ∧ i = .int .i64 k ∧ (∀ x ∈ l.take k, decide (v = x) = false) ∧ ∃ n, w.drewN n = wr) (fun _ i _ => l.length - (intOf i).toNat)
  case atStart => exact ⟨0, Nat.zero_le _, rfl, by simp, 0, rfl⟩
  case round =>
    obtain ⟨k, hk, rfl, ht, n, rfl⟩ := hrel
    have HT := hide ht
    clear ht
    by_cases hlt : k < l.length
    · obtain ⟨ad, rfl, hadb, c1⟩ := ha.at_ (k := k) (by simpa using hlt)
      rw [txts_get l k hlt] at c1
      have e0 := txt_beq v l[k]
      by_cases hp : v = l[k]
      · rw [decide_eq_true hp] at e0
        have HP := hide hp
        clear hp
        generalize hx : l[k] = z at *
        replace hx := hide hx
        go_wp2
        try go_quiet (fail)
        try go_wp2
        go_ret
        exact ⟨ret_int (idxI_at hlt HT.out (by rw [hx.out]; simp [HP.out])).symm, _, rfl⟩
      · rw [decide_eq_false hp] at e0
        have HP := hide hp
        clear hp
        go_wp2
        try go_quiet (fail)
        try go_wp2
        go_roundw
        case rel => exact ⟨k + 1, by omega, by go_num, none_take hlt HT.out (by simp [HP.out]), _, rfl⟩
        case measure => simp [intOf]; omega
    · go_wp2
      go_ret
      exact ⟨ret_int (idxI_none (by have := HT.out; rwa [List.take_of_length_le (by omega)] at this)).symm, _, rfl⟩
theorem txt_Contains (A : Option Addr) (c : Nat) (l : List ByteArray) (v : ByteArray) (w : World) (hl : l.length ≤ maxLen) (ha : Rd w w.heap.size A (txts l)) :
    Calls Try.prog 38 #[.slice A l.length c, .string v] w fun e w' => e = .returned (.bool (l.any (fun u => decide (v = u)))) ∧ ∃ n, w.drewN n = w' := by
  have h := txt_Index A c l v w hl ha
  rw [← idxI_any]
  generalize idxI (fun u => decide (v = u)) l = r at *
  go_enter Try.func38, Try.ntmps38
  go_wp2_with fail
  refine h.mono ?_; rintro e x0 ⟨rfl, n, rfl⟩
  go_wp2
  go_ret
  exact ⟨rfl, _, rfl⟩
theorem SameTexts_any (A B : Option Addr) (c d : Nat) (l m : List ByteArray) (w : World) (hl : l.length ≤ maxLen) (ha : Rd w w.heap.size A (txts l)) (hb : Rd w w.heap.size B (txts m)) :
    Calls Try.prog 22 #[.slice A l.length c, .slice B m.length d] w fun e w' => e = .returned (.bool (decide (l = m))) ∧ ∃ n, w.drewN n = w' := by
  unfold maxLen at hl
  by_cases hlen : l.length = m.length
  · have hne : ((l.length : Int) != (m.length : Int)) = false := by rw [bne_eq_false_iff_eq]; omega
    have hlen' : l.length ≤ m.length ∧ m.length ≤ l.length := by omega
    have HL := hide hlen
    clear hlen
    go_enter Try.func22, Try.ntmps22
    go_wp2
    go_loopw [5, 11, 13, 14] (fun i _ _ _ wr => ∃ k : Nat, k ≤ l.length ∧ i = .int .i64 k ∧ Hid (l.take k = m.take k) ∧ ∃ n, w.drewN n = wr) (fun i _ _ _ _ => l.length - (intOf i).toNat)
    case atStart => exact ⟨0, Nat.zero_le _, rfl, rfl, 0, rfl⟩
    case round =>
      obtain ⟨k, hk, rfl, HT, n, rfl⟩ := hrel
      by_cases hlt : k < l.length
      · obtain ⟨ad, rfl, _, hca⟩ := ha.at_ (k := k) (by simpa using hlt)
        obtain ⟨bd, rfl, _, hcb⟩ := hb.at_ (k := k) (by simp; omega)
        rw [txts_get l k hlt] at hca
        rw [txts_get m k (by omega)] at hcb
        have h2 : k < m.length := by omega
        have e0 := txt_bne l[k] m[k]
        have e1 := txt_beq l[k] m[k]
        by_cases he : l[k] = m[k]
        · rw [decide_eq_true he] at e0 e1
          have HE := hide he
          clear he
          generalize hx : l[k] = x at *
          generalize hy : m[k] = y at *
          replace hx := hide hx
          replace hy := hide hy
          go_wp2
          go_quiet (fail)
          go_wp2
          go_roundw
          case rel => exact ⟨k + 1, by omega, by go_num, take_eq_succ l m k hlt h2 HT.out (by rw [hx.out, hy.out]; exact HE.out), _, rfl⟩
          case measure => simp [intOf]; omega
        · rw [decide_eq_false he] at e0 e1
          have HE := hide he
          have hd : ¬ l[k].data = m[k].data := fun h => he (ByteArray.ext h)
          clear he
          generalize hx : l[k] = x at *
          generalize hy : m[k] = y at *
          replace hx := hide hx
          replace hy := hide hy
          go_wp2
          go_quiet (fail)
          go_wp2
          go_ret
          exact ⟨ret_bool (by rw [eq_comm, decide_eq_false_iff_not]; intro e; subst e; exact HE.out (by rw [← hx.out, ← hy.out])), qt_trans ⟨_, rfl⟩ ⟨_, rfl⟩⟩
      · go_wp2
        go_ret
        refine ⟨ret_bool ?_, _, rfl⟩
        have h := HT.out
        rw [List.take_of_length_le (by omega), List.take_of_length_le (by omega)] at h
        rw [eq_comm, decide_eq_true_eq]
        exact h
  · have hne : ((l.length : Int) != (m.length : Int)) = true := by rw [bne_iff_ne]; omega
    go_enter Try.func22, Try.ntmps22
    go_wp2
    go_ret
    exact ⟨ret_bool (by rw [eq_comm, decide_eq_false_iff_not]; intro e; exact hlen (by rw [e])), 0, rfl⟩
theorem txt_info : (Try.prog.info? 9).map (fun i => (i.zero, i.size, i.bytes)) = some (some (.string ⟨#[]⟩), 1, 16) := by kernel_rfl
theorem bUsers_snoc (l : List Pb) (k : Nat) (h : k < l.length) : bUsers (l.take (k + 1)) = uAdd (bUsers (l.take k)) l[k] := by
  unfold bUsers; rw [take_snocL l k h, List.foldl_append]; rfl
theorem bUsers_len (l : List Pb) : (bUsers l).length ≤ l.length := by
  have key : ∀ k, k ≤ l.length → (bUsers (l.take k)).length ≤ k := by
    intro k
    induction k with
    | zero => intro _; simp [bUsers]
    | succ k ih =>
      intro h
      rw [bUsers_snoc l k (by omega)]
      unfold uAdd
      split
      · have := ih (by omega); omega
      · have := ih (by omega); simp; omega
  have := key l.length (Nat.le_refl _)
  rwa [List.take_length] at this
def RowPost (w : World) (l : List ByteArray) (e : Ending) (w' : World) : Prop := ∃ A c, e = .returned (.slice A l.length c) ∧ Rd w' w'.heap.size A (txts l) ∧ Below w.heap.size w w'
set_option maxRecDepth 100000 in
set_option maxHeartbeats 4000000 in
theorem batch_Users_any (A : Option Addr) (c : Nat) (l : List Pb) (a s : Int) (w : World) (hl : l.length ≤ 1000) (ha : Rd w w.heap.size A (pbs l)) :
    Calls Try.prog 23 #[bsV A l.length c a s] w (RowPost w (bUsers l)) := by
  obtain ⟨iT, hi, hz0, hz1, hz2⟩ := info_parts txt_info
  go_enter Try.func23, Try.ntmps23
  go_wp2_with fail
  go_loopw [3, 9] (fun v i wr => ∃ (k : Nat) (W : Option Addr) (cW : Nat), k ≤ l.length ∧ i = .int .i64 k ∧ v = .slice W (bUsers (l.take k)).length cW ∧ wr.ownsRow w.heap.size 9 1 (.slice W (bUsers (l.take k)).length cW) (bUsers (l.take k)).length (txts (bUsers (l.take k))) ∧ (bUsers (l.take k)).length ≤ k ∧ w.heap.size ≤ wr.heap.size ∧ Below w.heap.size w wr) (fun _ i _ => l.length - (intOf i).toNat)
  case atStart => exact ⟨0, none, 0, Nat.zero_le _, rfl, rfl, ⟨by simp [bUsers], .inl ⟨rfl, rfl⟩⟩, by simp [bUsers], by simp, by (repeat (first | with_reducible exact Below.refl _ _ | with_reducible assumption | with_reducible refine Below.drew ?_ | with_reducible refine Below.drewN ?_ _ | with_reducible refine Below.alloc1 ?_ _ | with_reducible refine Below.setCell1 ?_ (by first | omega | (simp; done) | (simp; omega)) _ | with_reducible refine Below.step ?_ (by with_reducible assumption)))⟩
  case round =>
    obtain ⟨k, W, cW, hk, rfl, rfl, own, hle, hbw, hb⟩ := hrel
    by_cases hlt : k < l.length
    · obtain ⟨ad, rfl, hadb, c1, c2⟩ := (ha.below hb).pb hlt
      have HS := hide (bUsers_snoc l k hlt)
      have HLE := bUsers_len (l.take (k + 1))
      rw [List.length_take] at HLE
      replace HLE := hide (show (bUsers (l.take (k + 1))).length ≤ k + 1 by omega)
      generalize hVe : bUsers (l.take (k + 1)) = V at *
      replace hVe := hide hVe
      generalize bUsers (l.take k) = U at *
      generalize l[k] = x at *
      obtain ⟨y, z⟩ := x
      dsimp only at c1 c2
      go_wp2_with fail
      generalize hV : World.alloc wr _ = w1
      have hx : Below wr.heap.size wr w1 := by subst hV; (repeat (first | with_reducible exact Below.refl _ _ | with_reducible assumption | with_reducible refine Below.drew ?_ | with_reducible refine Below.drewN ?_ _ | with_reducible refine Below.alloc1 ?_ _ | with_reducible refine Below.setCell1 ?_ (by first | omega | (simp; done) | (simp; omega)) _ | with_reducible refine Below.step ?_ (by with_reducible assumption)))
      have kx : Bk w1 wr.heap.size 60 [.string y, .string z] := by subst hV; (repeat (first | with_reducible exact Bk.new' _ _ _ _ (by simp; done) | with_reducible assumption | with_reducible refine Bk.alloc ?_ _ | with_reducible refine Bk.drew ?_ | with_reducible refine Bk.drewN ?_ _ | with_reducible refine Bk.step ?_ (by with_reducible assumption) | with_reducible refine Bk.far ?_ (by first | omega | (simp; done) | (simp; omega)) _))
      clear hV c1 c2
      replace own := own_below own hx (Nat.le_refl _)
      replace hb := hb.step hx
      have hbw1 : w.heap.size ≤ w1.heap.size := by have := hx.size; omega
      clear hx
      have kx_0 := kx.cell 0; have kx_f0 := kx.frozen 0; have kx_1 := kx.cell 1; have kx_f1 := kx.frozen 1; simp only [List.set_cons_zero, List.set_cons_succ, List.getElem?_cons_zero, List.getElem?_cons_succ] at kx_0 kx_1; have lt_kx := kx.lt
      refine (txt_Contains W cW U z w1 (by unfold maxLen; omega) (own_rd own)).mono ?_; rintro e w2 ⟨rfl, n, rfl⟩
      replace own := own_drewN own n
      replace hb := hb.drewN n
      have ky := kx.drewN n
      generalize hW : w1.drewN n = w2 at *
      have hsz2 : w1.heap.size ≤ w2.heap.size := by subst hW; exact Nat.le_refl _
      clear hW
      (try clear kx_0 kx_f0 kx_1 kx_f1 lt_kx)
      clear kx
      have ky_0 := ky.cell 0; have ky_f0 := ky.frozen 0; have ky_1 := ky.cell 1; have ky_f1 := ky.frozen 1; simp only [List.set_cons_zero, List.set_cons_succ, List.getElem?_cons_zero, List.getElem?_cons_succ] at ky_0 ky_1; have lt_ky := ky.lt
      cases hin : U.any (fun u => decide (z = u)) with
      | true =>
        have HS2 : Hid (V = U) := by unfold Hid; rw [HS.out]; unfold uAdd; rw [if_pos hin]
        clear hin HS
        go_wp2
        go_roundw
        case rel => exact ⟨k + 1, W, cW, by omega, by go_num, by rw [hVe.out, HS2.out], by rw [hVe.out, HS2.out]; exact own, by rw [hVe.out]; exact HLE.out, by omega, hb⟩
        case measure => simp [intOf]; omega
      | false =>
        have HS2 : Hid (V = U ++ [z]) := by unfold Hid; rw [HS.out]; unfold uAdd; rw [if_neg (by rw [hin]; decide)]
        clear hin HS
        go_wp2_with (at_builtin; refine wpList_app2 rfl (.tmp 18) (.tmp 21) 52 rfl w.heap.size 9 iT _ 1 16 Try.underlying52 hi hz0 hz1 hz2 rfl (by omega) W U.length cW (txts U) rfl (own.alloc _) ⟨w2.heap.size, 0, none⟩ 1 1 [.string z] rfl rfl (news_one (by simp)) (by simp [Value.oneCell']) (by unfold maxLen; omega) (by omega) (by simp; omega) (by omega) ?_; intro g2 cap w7 own7 hb7 hgr7)
        have hs7 := hb7.size
        simp at hs7
        replace hb : Below w.heap.size w w7 := (hb.alloc1 _).trans hb7
        have own8 : w7.ownsRow w.heap.size 9 1 (.slice (some ⟨g2, 0, none⟩) V.length cap) V.length (txts V) := by
          rw [HS2.out, List.length_append, txts, List.map_append]; exact own7
        have HV : Hid (U.length + 1 = V.length) := by unfold Hid; rw [HS2.out]; simp
        clear own7
        go_wp2
        go_roundw
        case rel => exact ⟨k + 1, some ⟨g2, 0, none⟩, cap, by omega, by go_num, by rw [hVe.out, ← HV.out], by rw [hVe.out]; exact own8, by rw [hVe.out]; exact HLE.out, by omega, hb⟩
        case measure => simp [intOf]; omega
    · have hkl : k = l.length := by omega
      subst hkl
      rw [List.take_length] at own
      go_wp2
      go_ret
      exact ⟨W, cW, by show Ending.returned (.slice W (bUsers (l.take l.length)).length cW) = _; rw [List.take_length], own_rd own, hb⟩
set_option maxRecDepth 100000 in
set_option maxHeartbeats 4000000 in
theorem batch_Rounds_any (A : Option Addr) (c : Nat) (l : List Pb) (a s n : Int) (w : World) (hl : l.length ≤ 1000) (hc : l.length ≤ c) (hS : ∀ x ∈ l, Sm x) (hm : MW w) (ha : Rd w w.heap.size A (pbs l)) :
    Calls Try.prog 25 #[bsV A l.length c a s, .int .i64 n] w fun e w' => e = .returned (.int .i64 (bRounds ⟨l, a, s⟩ n)) ∧ Below w.heap.size w w' := by
  have HC := fun (W : World) (h : Below w.heap.size w W) => batch_Check_any A c l a s W hl hc hS (hm.step h) ((ha.below h).more h.size)
  obtain ⟨R, hR⟩ : ∃ R, R = bRounds ⟨l, a, s⟩ n := ⟨_, rfl⟩
  rw [← hR]
  unfold bRounds at hR
  dsimp only at hR
  generalize bCheck ⟨l, a, s⟩ = C at *
  replace hR := hide hR
  by_cases h0 : l.length = 0
  · have e0 : ((l.length : Int) == 0) = true := by rw [beq_iff_eq]; omega
    have hR0 : R = 0 := hR.out.trans (if_pos (.inl h0))
    clear hR h0
    subst hR0
    go_enter Try.func25, Try.ntmps25
    go_wp2
    go_ret
    exact ⟨rfl, by (repeat (first | with_reducible exact Below.refl _ _ | with_reducible assumption | with_reducible refine Below.drew ?_ | with_reducible refine Below.drewN ?_ _ | with_reducible refine Below.alloc1 ?_ _ | with_reducible refine Below.setCell1 ?_ (by first | omega | (simp; done) | (simp; omega)) _ | with_reducible refine Below.step ?_ (by with_reducible assumption)))⟩
  have e0 : ((l.length : Int) == 0) = false := by rw [beq_eq_false_iff_ne]; omega
  have HL0 := hide h0
  clear h0
  go_enter Try.func25, Try.ntmps25
  go_wp2_with fail
  generalize hV : World.alloc w _ = w1
  have hb : Below w.heap.size w w1 := by subst hV; (repeat (first | with_reducible exact Below.refl _ _ | with_reducible assumption | with_reducible refine Below.drew ?_ | with_reducible refine Below.drewN ?_ _ | with_reducible refine Below.alloc1 ?_ _ | with_reducible refine Below.setCell1 ?_ (by first | omega | (simp; done) | (simp; omega)) _ | with_reducible refine Below.step ?_ (by with_reducible assumption)))
  clear hV
  refine (HC _ hb).mono ?_; rintro e w2 ⟨rfl, hx⟩
  replace hb := hb.step hx
  clear hx HC
  by_cases hC0 : C ≠ 0
  · have e1 : (C != 0) = true := by simpa using hC0
    have hR0 : R = 0 := hR.out.trans (if_pos (.inr hC0))
    clear hR hC0
    subst hR0
    go_wp2
    go_ret
    exact ⟨rfl, hb⟩
  obtain rfl : C = 0 := Classical.not_not.1 hC0
  replace hR := hide (hR.out.trans (if_neg (fun h => h.elim HL0.out (fun h => h rfl))))
  clear hC0
  by_cases h1 : n < 1
  · have hR0 : R = -1 := hR.out.trans (if_pos h1)
    clear hR
    subst hR0
    go_wp2
    go_ret
    exact ⟨rfl, hb⟩
  replace hR := hide (hR.out.trans (if_neg h1))
  have h2 : 1 ≤ n := by omega
  clear h1
  have hq : 1 ≤ min n (l.length : Int) ∧ min n (l.length : Int) ≤ 1000 := by have := HL0.out; omega
  obtain ⟨q1, q2⟩ := hq
  go_upto_region 7 with fail
  generalize min n (l.length : Int) = q at *
  have q3 : (q == 0) = false := by rw [beq_eq_false_iff_ne]; omega
  have q4 : (0 : Int) ≤ (l.length : Int) + q - 1 := by omega
  go_wp2
  go_ret
  exact ⟨ret_int (by rw [hR.out]), hb⟩
set_option maxRecDepth 100000 in
set_option maxHeartbeats 4000000 in
theorem batch_Same_any (A B : Option Addr) (c d : Nat) (l m : List Pb) (a s a' s' : Int) (w : World) (hl : l.length ≤ 1000) (ha : Rd w w.heap.size A (pbs l)) (hb : Rd w w.heap.size B (pbs m)) :
    Calls Try.prog 27 #[bsV A l.length c a s, bsV B m.length d a' s'] w fun e w' => e = .returned (.bool (decide ((⟨l, a, s⟩ : Bs) = ⟨m, a', s'⟩))) ∧ Below w.heap.size w w' := by
  have HE := fun (W : World) (h : Below w.heap.size w W) => pb_Equal A B c d l m W (by unfold maxLen; omega) ((ha.below h).more h.size) ((hb.below h).more h.size)
  have key : decide ((⟨l, a, s⟩ : Bs) = ⟨m, a', s'⟩) = (decide (l = m) && decide (a = a') && decide (s = s')) := by
    rw [Bool.eq_iff_iff]; simp [and_assoc]
  rw [key]
  clear key
  generalize decide (l = m) = D at *
  cases D with
  | false =>
    go_enter Try.func27, Try.ntmps27
    go_wp2_with fail
    generalize hV : World.alloc (World.alloc w _) _ = w1
    have hb1 : Below w.heap.size w w1 := by subst hV; (repeat (first | with_reducible exact Below.refl _ _ | with_reducible assumption | with_reducible refine Below.drew ?_ | with_reducible refine Below.drewN ?_ _ | with_reducible refine Below.alloc1 ?_ _ | with_reducible refine Below.setCell1 ?_ (by first | omega | (simp; done) | (simp; omega)) _ | with_reducible refine Below.step ?_ (by with_reducible assumption)))
    clear hV
    refine (HE _ hb1).mono ?_; rintro e w2 ⟨rfl, n, rfl⟩
    go_wp2
    go_ret
    exact ⟨rfl, by (repeat (first | with_reducible exact Below.refl _ _ | with_reducible assumption | with_reducible refine Below.drew ?_ | with_reducible refine Below.drewN ?_ _ | with_reducible refine Below.alloc1 ?_ _ | with_reducible refine Below.setCell1 ?_ (by first | omega | (simp; done) | (simp; omega)) _ | with_reducible refine Below.step ?_ (by with_reducible assumption)))⟩
  | true =>
    by_cases h1 : a = a' <;> by_cases h2 : s = s'
    all_goals
      have e1 : (a == a') = decide (a = a') := by rw [Bool.eq_iff_iff]; simp
      have e2 : (s == s') = decide (s = s') := by rw [Bool.eq_iff_iff]; simp
      first | rw [decide_eq_true h1] at * | rw [decide_eq_false h1] at *
      first | rw [decide_eq_true h2] at * | rw [decide_eq_false h2] at *
      clear h1 h2
      go_enter Try.func27, Try.ntmps27
      go_wp2_with fail
      generalize hV : World.alloc (World.alloc w _) _ = w1
      have hb1 : Below w.heap.size w w1 := by subst hV; (repeat (first | with_reducible exact Below.refl _ _ | with_reducible assumption | with_reducible refine Below.drew ?_ | with_reducible refine Below.drewN ?_ _ | with_reducible refine Below.alloc1 ?_ _ | with_reducible refine Below.setCell1 ?_ (by first | omega | (simp; done) | (simp; omega)) _ | with_reducible refine Below.step ?_ (by with_reducible assumption)))
      have k0 : Bk w1 w.heap.size 31 (bsC A l.length c a s) := by subst hV; (repeat (first | with_reducible exact Bk.new' _ _ _ _ (by simp; done) | with_reducible assumption | with_reducible refine Bk.alloc ?_ _ | with_reducible refine Bk.drew ?_ | with_reducible refine Bk.drewN ?_ _ | with_reducible refine Bk.step ?_ (by with_reducible assumption) | with_reducible refine Bk.far ?_ (by first | omega | (simp; done) | (simp; omega)) _))
      have k1 : Bk w1 (w.heap.size + 1) 31 (bsC B m.length d a' s') := by subst hV; (repeat (first | with_reducible exact Bk.new' _ _ _ _ (by simp; done) | with_reducible assumption | with_reducible refine Bk.alloc ?_ _ | with_reducible refine Bk.drew ?_ | with_reducible refine Bk.drewN ?_ _ | with_reducible refine Bk.step ?_ (by with_reducible assumption) | with_reducible refine Bk.far ?_ (by first | omega | (simp; done) | (simp; omega)) _))
      clear hV
      refine (HE _ hb1).mono ?_; rintro e w2 ⟨rfl, n, rfl⟩
      replace k0 := k0.drewN n
      replace k1 := k1.drewN n
      have k0_0 := k0.cell 0; have k0_f0 := k0.frozen 0; have k0_1 := k0.cell 1; have k0_f1 := k0.frozen 1; have k0_2 := k0.cell 2; have k0_f2 := k0.frozen 2; simp only [List.set_cons_zero, List.set_cons_succ, List.getElem?_cons_zero, List.getElem?_cons_succ] at k0_0 k0_1 k0_2; have lt_k0 := k0.lt; have k1_0 := k1.cell 0; have k1_f0 := k1.frozen 0; have k1_1 := k1.cell 1; have k1_f1 := k1.frozen 1; have k1_2 := k1.cell 2; have k1_f2 := k1.frozen 2; simp only [List.set_cons_zero, List.set_cons_succ, List.getElem?_cons_zero, List.getElem?_cons_succ] at k1_0 k1_1 k1_2; have lt_k1 := k1.lt
      go_wp2
      go_ret
      exact ⟨rfl, by (repeat (first | with_reducible exact Below.refl _ _ | with_reducible assumption | with_reducible refine Below.drew ?_ | with_reducible refine Below.drewN ?_ _ | with_reducible refine Below.alloc1 ?_ _ | with_reducible refine Below.setCell1 ?_ (by first | omega | (simp; done) | (simp; omega)) _ | with_reducible refine Below.step ?_ (by with_reducible assumption)))⟩
end Go.Proofs.Ytfgfkiifekeeaaa
