/- The reference of package config: numbers. -/
import Derived.Test.YtfbllioegeadfaaDoorRc2
namespace Go.Proofs.YtfbllioegeadfaaDoor
open Go.RowKit
set_option linter.unusedSimpArgs false
set_option linter.unusedVariables false

theorem px_at (i j : Nat) (hi : i < 12) (hj : j < cntN i) : (pxs cFd)[stN i + j]? = some (pxB i j).data.toList := by
  match i, hi, j, hj with
  | 0, _, 0, _ => exact congrArg some (by simp [pxB, keyB]) | 1, _, 0, _ => exact congrArg some (by simp [pxB, keyB]) | 2, _, 0, _ => exact congrArg some (by simp [pxB, keyB]) | 3, _, 0, _ => exact congrArg some (by simp [pxB, keyB]) | 4, _, 0, _ => exact congrArg some (by simp [pxB, keyB]) | 5, _, 0, _ => exact congrArg some (by simp [pxB, keyB]) | 5, _, 1, _ => exact congrArg some (by simp [pxB, keyB]) | 6, _, 0, _ => exact congrArg some (by simp [pxB, keyB]) | 6, _, 1, _ => exact congrArg some (by simp [pxB, keyB]) | 7, _, 0, _ => exact congrArg some (by simp [pxB, keyB]) | 7, _, 1, _ => exact congrArg some (by simp [pxB, keyB]) | 7, _, 2, _ => exact congrArg some (by simp [pxB, keyB]) | 8, _, 0, _ => exact congrArg some (by simp [pxB, keyB]) | 8, _, 1, _ => exact congrArg some (by simp [pxB, keyB]) | 8, _, 2, _ => exact congrArg some (by simp [pxB, keyB]) | 9, _, 0, _ => exact congrArg some (by simp [pxB, keyB]) | 10, _, 0, _ => exact congrArg some (by simp [pxB, keyB]) | 10, _, 1, _ => exact congrArg some (by simp [pxB, keyB]) | 10, _, 2, _ => exact congrArg some (by simp [pxB, keyB]) | 10, _, 3, _ => exact congrArg some (by simp [pxB, keyB]) | 11, _, 0, _ => exact congrArg some (by simp [pxB, keyB]) | 11, _, 1, _ => exact congrArg some (by simp [pxB, keyB]) | 11, _, 2, _ => exact congrArg some (by simp [pxB, keyB]) | 11, _, 3, _ => exact congrArg some (by simp [pxB, keyB])
theorem pxB_size (i j : Nat) : (pxB i j).size ≤ 9 := by
  have := keyB_len i
  unfold pxB
  split
  · decide
  · split
    · simp [ByteArray.size_append]; have e : (⟨#[59]⟩ : ByteArray).size = 1 := rfl; have e2 : (⟨#[61]⟩ : ByteArray).size = 1 := rfl; omega
    · simp [ByteArray.size_append]; have e2 : (⟨#[61]⟩ : ByteArray).size = 1 := rfl; omega
/-- reading from left to right under way: p numbers are read, the next one's prefix is looked for at a -/
def RN (S : Tx) (p a : Nat) (acc : List Int) : Prop := rRun (pxs cFd) S = (rRun ((pxs cFd).drop p) (S.drop a)).map (acc ++ ·) ∧ acc.length = p ∧ a ≤ S.length
theorem RN.start (S : Tx) : RN S 0 0 [] := ⟨by simp, rfl, Nat.zero_le _⟩
theorem RN.at_ {S : Tx} {p a : Nat} {acc : List Int} (h : RN S p a acc) {q : Tx} (hq : (pxs cFd)[p]? = some q) :
    rRun (pxs cFd) S = (if q.isPrefixOf (S.drop a) = true then (rNum (S.drop (a + q.length))).bind fun x => (rRun ((pxs cFd).drop (p + 1)) x.2).map (x.1 :: ·) else none).map (acc ++ ·) := by
  obtain ⟨hl, rfl⟩ := List.getElem?_eq_some_iff.1 hq
  rw [h.1, List.drop_eq_getElem_cons hl]
  show (rRun (_ :: _) _).map _ = _
  rw [rRun, List.drop_drop]
theorem RN.no {S : Tx} {p a : Nat} {acc : List Int} (h : RN S p a acc) {q : Tx} (hq : (pxs cFd)[p]? = some q) (hn : q.isPrefixOf (S.drop a) = false) : rRun (pxs cFd) S = none := by
  rw [h.at_ hq, hn]; rfl
theorem RN.bad {S : Tx} {p a : Nat} {acc : List Int} (h : RN S p a acc) {q : Tx} (hq : (pxs cFd)[p]? = some q) (hn : q.isPrefixOf (S.drop a) = true) (hr : rNum (S.drop (a + q.length)) = none) : rRun (pxs cFd) S = none := by
  rw [h.at_ hq, hn, hr]; rfl
theorem RN.len {S : Tx} {p a : Nat} {acc : List Int} (h : RN S p a acc) {q : Tx} (hn : q.isPrefixOf (S.drop a) = true) : a + q.length ≤ S.length := by
  have := (List.isPrefixOf_iff_prefix.1 hn).length_le
  rw [List.length_drop] at this
  have := h.2.2
  omega
theorem RN.next {S : Tx} {p a m : Nat} {acc : List Int} (h : RN S p a acc) {q : Tx} (hq : (pxs cFd)[p]? = some q) (hn : q.isPrefixOf (S.drop a) = true) {v : Int} {r : Tx} (hr : rNum (S.drop (a + q.length)) = some (v, r)) (hm : r = (S.drop (a + q.length)).drop m ∧ m ≤ (S.drop (a + q.length)).length) : RN S (p + 1) (a + q.length + m) (acc ++ [v]) := by
  have hlen := h.len hn
  refine ⟨?_, by simp [h.2.1], by have := hm.2; rw [List.length_drop] at this; omega⟩
  rw [h.at_ hq, hn, hr, if_pos rfl, Option.bind_some]
  dsimp only
  rw [hm.1, List.drop_drop, Option.map_map]
  congr 1
  funext x
  simp
theorem RN.end_ {S : Tx} {a : Nat} {acc : List Int} (h : RN S 24 a acc) : rRun (pxs cFd) S = if a = S.length then some acc else none := by
  rw [h.1]
  show (rRun [] _).map _ = _
  rw [rRun]
  by_cases ha : a = S.length
  · rw [if_pos ha, if_pos (by rw [ha]; exact List.drop_length)]; simp
  · rw [if_neg ha, if_neg]
    · rfl
    · intro e
      have := congrArg List.length e
      rw [List.length_drop] at this
      have := h.2.2
      simp at *; omega
theorem st_le : ∀ k, k < 12 → ∀ j, j < cntN k → stN k + j < 24 := by decide
theorem rNum_nonneg {t r : Tx} {v : Int} (h : rNum t = some (v, r)) : 0 ≤ v := by
  obtain ⟨d, hd, _⟩ := rNum_some h
  exact (numS_only hd).2
/-- a row of its own from a block's first cell on -/
def RowZ (w : World) (A : Option Addr) (xs : List Value) : Prop := ∃ g, A = some ⟨g, 0, none⟩ ∧ g < w.heap.size ∧ ∀ j u, xs[j]? = some u → w.cell? ⟨g, j, none⟩ = some u
theorem rowZ_own {w : World} {base : Nat} {e : TypeId} {size n c : Nat} {A : Option Addr} {xs : List Value} (h : w.ownsRow base e size (.slice A n c) n xs) (hn : 0 < n) : RowZ w A xs := by
  obtain ⟨g, cap, ev, hb, hg⟩ := own_some h hn
  injection ev with ev1 ev2 ev3
  subst ev1
  refine ⟨g, rfl, hg, fun j u hu => ?_⟩
  have := h.cells (g := g) rfl j u hu
  have e0 : (⟨g, 0, none⟩ : Addr).add j = ⟨g, j, none⟩ := by unfold Addr.add; split <;> simp_all
  rw [← e0]; exact this
/-- what numbers tells -/
def NumsP (w : World) (o : Option (List Int)) (e : Ending) (w' : World) : Prop := ∃ A n d ok, e = .returned (.tuple #[.slice A n d, .bool ok]) ∧ (match o with | some l => ok = true ∧ n = l.length ∧ n ≤ d ∧ (0 < n → RowZ w' A (ints l)) | none => ok = false) ∧ Below w.heap.size w w'
theorem int_info : (Tryd.prog.info? 3).map (fun i => (i.zero, i.size, i.bytes)) = some (some (.int .i64 0), 1, 8) := by kernel_rfl
set_option maxRecDepth 100000 in
set_option maxHeartbeats 8000000 in
theorem r32_numbers_any (s : ByteArray) (hs : s.size ≤ 300) (w : World) : Calls Tryd.prog 17 #[.string s] w fun e w' => NumsP w (rRun (pxs cFd) s.data.toList) e w' := by
  obtain ⟨i0, hi0, hz0, hz1, hz2⟩ := info_parts int_info
  have hsl := list_size s
  go_enter Tryd.func17, Tryd.ntmps17
  go_wp2_with fail
  go_loopw [4, 5, 6] (fun o at_ i wr => ∃ (k a : Nat) (acc : List Int) (A : Option Addr) (d : Nat), k ≤ 12 ∧ i = .int .i64 k ∧ at_ = .int .i64 a ∧ o = .slice A acc.length d ∧ RN s.data.toList (stN k) a acc ∧ wr.ownsRow w.heap.size 3 1 (.slice A acc.length d) acc.length (ints acc) ∧ Below w.heap.size w wr) (fun _ _ i _ => 12 - (intOf i).toNat)
  case atStart => exact ⟨0, 0, [], none, 0, by omega, rfl, rfl, rfl, RN.start _, World.ownsRow_nil _ _ _ _, Below.refl _ _⟩
  case round =>
    obtain ⟨k, a, acc, A, d, hk, rfl, rfl, rfl, hR, own, hb⟩ := hrel
    replace hR := hide hR
    by_cases hlt : k < 12
    · have hki : (k : Int) < 12 := by omega
      have hkey := fun W => r32_key_any k hlt W
      have hks : (keyB k).size + 1 ≤ 9223372036854775807 := by have := keyB_len k; omega
      have hks2 : 1 + ((keyB k).size + 1) ≤ 9223372036854775807 := by have := keyB_len k; omega
      have hcnt := (st_off k hlt).2.2.2
      have hst3 := hide (st_off k hlt).2.2.1
      by_cases hk0 : 0 < k
      case' pos => have hk0i : (0 : Int) < (k : Int) := by omega
      case' neg => have hk0i : ¬ (0 : Int) < (k : Int) := by omega
      all_goals
        have hpx0 : Hid (pxB k 0 = if 0 < k then ⟨#[59]⟩ ++ (keyB k ++ ⟨#[61]⟩) else keyB k ++ ⟨#[61]⟩) := rfl
        go_wp2_with fail
        refine (hkey _).mono ?_; rintro e w1 ⟨rfl, rfl⟩
        go_wp2_with fail
        clear hkey
        go_loopw [4, 5, 7, 9] (fun o at_ kk jj w2 => ∃ (j a1 : Nat) (acc1 : List Int) (A1 : Option Addr) (d1 : Nat) (k' : ByteArray), j ≤ cntN k ∧ jj = .int .i64 j ∧ at_ = .int .i64 a1 ∧ o = .slice A1 acc1.length d1 ∧ kk = .string k' ∧ (j = 0 → k' = pxB k 0) ∧ RN s.data.toList (stN k + j) a1 acc1 ∧ w2.ownsRow w.heap.size 3 1 (.slice A1 acc1.length d1) acc1.length (ints acc1) ∧ Below w.heap.size w w2) (fun _ _ _ j _ => cntN k - (intOf j).toNat)
        case atStart => exact ⟨0, a, acc, A, d, _, by omega, rfl, rfl, rfl, rfl, fun _ => (by rw [hpx0.out]; first | rw [if_pos hk0] | rw [if_neg hk0]), hR.out, own, hb⟩
        case round =>
          obtain ⟨w2, h2⟩ : ∃ w2, w2 = wr := ⟨_, rfl⟩
          subst h2
          obtain ⟨j, a1, acc1, A1, d1, k', hj, rfl, rfl, rfl, rfl, hk', hR1, own1, hb1⟩ := hrel
          replace hR1 := hide hR1
          by_cases hjl : j < cntN k
          · have hji : (j : Int) < (cntN k : Int) := by omega
            have hpx := hide (px_at k j hlt hjl)
            have hql : (pxB k j).data.toList.length = (pxB k j).size := list_size _
            have hqs := pxB_size k j
            have ha1 : a1 ≤ s.size := by have := hR1.out.2.2; omega
            have hbg := fun W => r32_begins_any s (pxB k j) a1 ha1 (by omega) (by omega) W
            by_cases hj0 : j = 0
            · have hpj : pxB k j = k' := by rw [hj0]; exact (hk' hj0).symm
              have hj0i : ¬ (0 : Int) < (j : Int) := by omega
              have hks' : k'.size ≤ 9 := by rw [← hpj]; exact pxB_size k j
              rw [hpj] at hbg hpx
              replace hpj := hide hpj
              clear hk' hj0
              go_wp2_with fail
              with_reducible refine (hbg _).mono ?_; rintro e w1 ⟨rfl, rfl⟩
              have hql : (k').data.toList.length = k'.size := list_size _
              cases hpre : (k').data.toList.isPrefixOf (s.data.toList.drop a1) with
              | false =>
                have hno := hide (hR1.out.no hpx.out hpre)
                clear hpre hbg hql
                go_wp2_with fail
                go_ret2
                rw [hno.out]
                exact ⟨none, 0, 0, false, rfl, rfl, hb1⟩
              | true =>
                have hlen := hR1.out.len hpre
                rw [hql, hsl] at hlen
                have hnum := fun W => r32_number_any s (a1 + k'.size) hlen (by omega) W
                have hle1 : ((a1 + k'.size : Nat) : Int) = (a1 : Int) + (k'.size : Int) := by omega
                simp only [hle1] at hnum
                have hcases : (∃ x, rNum (s.data.toList.drop (a1 + k'.size)) = some x) ∨ rNum (s.data.toList.drop (a1 + k'.size)) = none := by
                  cases rNum (s.data.toList.drop (a1 + k'.size)) with
                  | none => exact .inr rfl
                  | some x => exact .inl ⟨x, rfl⟩
                replace hpre := hide hpre
                replace hql := hide hql
                clear hbg
                go_wp2_with fail
                with_reducible refine (hnum _).mono ?_; rintro e w1 ⟨hN, rfl⟩
                unfold NumR at hN
                obtain ⟨m, he, hm⟩ := hN
                subst he
                rcases hcases with ⟨⟨v, r⟩, hr⟩ | hr
                case inr =>
                  have hno := hide (hR1.out.bad hpx.out hpre.out (by rw [hql.out]; exact hr))
                  rw [hr]
                  clear hm hr hnum
                  go_wp2_with fail
                  go_ret2
                  rw [hno.out]
                  exact ⟨none, 0, 0, false, rfl, rfl, hb1⟩
                have hnx := hR1.out.next hpx.out hpre.out (m := m) (by rw [hql.out]; exact hr) (by rw [hql.out]; exact hm v r hr)
                rw [hql.out] at hnx
                have hst := st_le k hlt j hjl
                replace hnx := hide hnx
                have hv0 : 0 ≤ v := rNum_nonneg hr
                have hsz := hb1.size
                have hal24 : acc1.length ≤ 24 := by have := hR1.out.2.1; omega
                rw [hr]
                clear hm hr hnum
                go_wp2_with (first
                  | (at_builtin; refine wpList_app2 rfl (.tmp 50) (.tmp 52) 58 rfl w.heap.size 3 i0 _ 1 8 Tryd.underlying58 hi0 hz0 hz1 hz2 rfl (by omega) A1 acc1.length d1 (ints acc1) rfl (own1.alloc _) ⟨w2.heap.size, 0, none⟩ 1 1 [.int .i64 v] rfl rfl (news_atE (w := w2) (cs := [.int .i64 v]) (e := 3) rfl) (by simp [Value.oneCell']) (by unfold maxLen; omega) (by omega) (by simp; omega) (by omega) ?_; intro g2 cap w5 own5 hb5 hgr5)
                  | fail)
                have hea : (acc1 ++ [v]).length = acc1.length + 1 := by simp
                go_roundw
                case rel => exact ⟨j + 1, a1 + k'.size + m, acc1 ++ [v], _, cap, _, hjl, by go_num, rfl, by rw [hea], rfl, fun h => absurd h (by omega), hnx.out, by rw [hea]; simpa [ints] using own5, (hb1.alloc hsz _).trans hb5⟩
                case measure => simp [intOf]; omega
            · have hj0i : (0 : Int) < (j : Int) := by omega
              have hpj : pxB k j = ⟨#[44]⟩ := by unfold pxB; rw [if_pos (by omega)]
              rw [hpj] at hbg hpx
              replace hpj := hide hpj
              clear hk' hj0
              go_wp2_with fail
              with_reducible refine (hbg _).mono ?_; rintro e w1 ⟨rfl, rfl⟩
              have hql : (⟨#[44]⟩ : ByteArray).data.toList.length = 1 := list_size _
              cases hpre : (⟨#[44]⟩ : ByteArray).data.toList.isPrefixOf (s.data.toList.drop a1) with
              | false =>
                have hno := hide (hR1.out.no hpx.out hpre)
                clear hpre hbg hql
                go_wp2_with fail
                go_ret2
                rw [hno.out]
                exact ⟨none, 0, 0, false, rfl, rfl, hb1⟩
              | true =>
                have hlen := hR1.out.len hpre
                rw [hql, hsl] at hlen
                have hnum := fun W => r32_number_any s (a1 + 1) hlen (by omega) W
                have hle1 : ((a1 + 1 : Nat) : Int) = (a1 : Int) + (1 : Int) := by omega
                simp only [hle1] at hnum
                have hcases : (∃ x, rNum (s.data.toList.drop (a1 + 1)) = some x) ∨ rNum (s.data.toList.drop (a1 + 1)) = none := by
                  cases rNum (s.data.toList.drop (a1 + 1)) with
                  | none => exact .inr rfl
                  | some x => exact .inl ⟨x, rfl⟩
                replace hpre := hide hpre
                replace hql := hide hql
                clear hbg
                go_wp2_with fail
                with_reducible refine (hnum _).mono ?_; rintro e w1 ⟨hN, rfl⟩
                unfold NumR at hN
                obtain ⟨m, he, hm⟩ := hN
                subst he
                rcases hcases with ⟨⟨v, r⟩, hr⟩ | hr
                case inr =>
                  have hno := hide (hR1.out.bad hpx.out hpre.out (by rw [hql.out]; exact hr))
                  rw [hr]
                  clear hm hr hnum
                  go_wp2_with fail
                  go_ret2
                  rw [hno.out]
                  exact ⟨none, 0, 0, false, rfl, rfl, hb1⟩
                have hnx := hR1.out.next hpx.out hpre.out (m := m) (by rw [hql.out]; exact hr) (by rw [hql.out]; exact hm v r hr)
                rw [hql.out] at hnx
                have hst := st_le k hlt j hjl
                replace hnx := hide hnx
                have hv0 : 0 ≤ v := rNum_nonneg hr
                have hsz := hb1.size
                have hal24 : acc1.length ≤ 24 := by have := hR1.out.2.1; omega
                rw [hr]
                clear hm hr hnum
                go_wp2_with (first
                  | (at_builtin; refine wpList_app2 rfl (.tmp 50) (.tmp 52) 58 rfl w.heap.size 3 i0 _ 1 8 Tryd.underlying58 hi0 hz0 hz1 hz2 rfl (by omega) A1 acc1.length d1 (ints acc1) rfl (own1.alloc _) ⟨w2.heap.size, 0, none⟩ 1 1 [.int .i64 v] rfl rfl (news_atE (w := w2) (cs := [.int .i64 v]) (e := 3) rfl) (by simp [Value.oneCell']) (by unfold maxLen; omega) (by omega) (by simp; omega) (by omega) ?_; intro g2 cap w5 own5 hb5 hgr5)
                  | fail)
                have hea : (acc1 ++ [v]).length = acc1.length + 1 := by simp
                go_roundw
                case rel => exact ⟨j + 1, a1 + 1 + m, acc1 ++ [v], _, cap, _, hjl, by go_num, rfl, by rw [hea], rfl, fun h => absurd h (by omega), hnx.out, by rw [hea]; simpa [ints] using own5, (hb1.alloc hsz _).trans hb5⟩
                case measure => simp [intOf]; omega
          · obtain rfl : j = cntN k := by omega
            have hR2 : Hid (RN s.data.toList (stN (k + 1)) a1 acc1) := by rw [hst3.out]; exact hR1.out
            clear hk'
            go_wp2_with fail
            go_roundw
            case rel => exact ⟨k + 1, a1, acc1, A1, d1, by omega, by go_num, rfl, rfl, hR2.out, own1, hb1⟩
            case measure => simp [intOf]; omega
    · obtain rfl : k = 12 := by omega
      have hE := hide (RN.end_ (show RN s.data.toList 24 a acc from hR.out))
      rw [hsl] at hE
      have hlen : acc.length ≤ d := (own_cap32 own).1
      have has : a ≤ s.size := by have := hR.out.2.2; omega
      by_cases hae : a = s.size
      · have hE2 := hE.out
        rw [if_pos hae] at hE2
        replace hE2 := hide hE2
        subst hae
        clear hE
        go_wp2_with fail
        go_ret2
        rw [hE2.out]
        exact ⟨A, acc.length, d, true, rfl, ⟨rfl, rfl, hlen, fun h => rowZ_own own h⟩, hb⟩
      · have hE2 := hE.out
        rw [if_neg hae] at hE2
        replace hE2 := hide hE2
        have haei : ((a : Int) == (s.size : Int)) = false := by simp; omega
        clear hE
        go_wp2_with fail
        go_ret2
        rw [hE2.out]
        exact ⟨A, acc.length, d, false, rfl, rfl, hb⟩
end Go.Proofs.YtfbllioegeadfaaDoor
