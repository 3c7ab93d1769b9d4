/- Law 07: TableSlots, walked. -/
import Derived.Test.YtpnhdbejkdoceaaLaw07a
namespace Go.Proofs.Ytpnhdbejkdoceaa
open Go.RowKit Go.Sort
set_option linter.unusedSimpArgs false
set_option linter.unusedVariables false

def lvN (L : List TS) (j : Nat) : Nat := (L.take j).countP (·.live)
theorem lvN_step (L : List TS) (j : Nat) (h : j < L.length) : lvN L (j + 1) = lvN L j + if (gt L j).live = true then 1 else 0 := by
  unfold lvN
  rw [take_snocL L j h, List.countP_append, gt_get h]
  cases h2 : L[j].live <;> simp [h2]
theorem lvN_all (L : List TS) : lvN L L.length = lv L := by unfold lvN lv; rw [List.take_length]
theorem lvN_le (L : List TS) (j : Nat) : lvN L j ≤ j := by
  unfold lvN
  have h1 := List.countP_le_length (p := fun x : TS => x.live) (l := L.take j)
  rw [List.length_take] at h1
  omega
theorem empty_beq (k : ByteArray) : (k.toList == ([] : List UInt8)) = decide (k = ⟨#[]⟩) := by
  rw [ByteArray.toList_eq]
  by_cases h : k = ⟨#[]⟩
  · subst h; simp
  · rw [decide_eq_false h, beq_eq_false_iff_ne]
    intro c
    apply h
    obtain ⟨⟨a⟩⟩ := k
    simp only at c
    rw [c]
/-- a slot's key is empty just if the slot is -/
theorem key_live {L : List TS} (h : TI L) (hne : ∀ v, ¬ hasE L ⟨#[]⟩ v) {p : Nat} (hp : p < L.length) : ((gt L p).k = ⟨#[]⟩ ↔ (gt L p).live = false) := by
  constructor
  · intro e
    cases hl : (gt L p).live with
    | false => rfl
    | true => exact absurd ⟨p, hp, hl, e, rfl⟩ (hne (gt L p).v)
  · intro e
    rw [h.dead p e]; rfl
theorem keyR_get (L : List TS) (p : Nat) (h : p < L.length) : (keyR L)[p]? = some (.string (gt L p).k) := by
  rw [List.getElem?_map, List.getElem?_eq_getElem h, gt_get h]; rfl
set_option maxHeartbeats 8000000 in
set_option maxRecDepth 100000 in
theorem TableSlots_walk (room : Int) (A : Option Addr) (c : Nat) (l : List AcT) (hr : 0 ≤ room ∧ room ≤ 255) (hl : l.length ≤ maxLen) (hp : ∀ p ∈ l, (0 ≤ p.kind ∧ p.kind ≤ 255) ∧ p.key.size ≤ maxLen ∧ -9223372036854775808 ≤ p.n ∧ p.n ≤ 9223372036854775807) (w : World) (hA : Rd w w.heap.size A (atR7 l)) :
    Calls Try.prog 4 #[.int .u8 room, .slice A l.length c] w fun e w' => e = .returned (.bool true) ∧ Below w.heap.size w w' := by
  have hFw := fun W h => few_any W A c 80 l hl (by omega) h
  have HF := hide (fewP_iff (l := l) (most := 80))
  unfold maxLen at hl
  generalize fewP l 80 = fw at *
  cases fw
  · go_enter Try.func4, Try.ntmps4
    go_wp2_with fail
    refine (hFw _ hA).mono ?_
    rintro e w1 ⟨rfl, rfl⟩
    go_wp2_with fail
    refine (awake_any _).mono ?_
    rintro e w4 ⟨rfl, hb4⟩
    go_wp2
    go_ret
    exact ⟨rfl, hb4⟩
  · obtain ⟨hl80, hks⟩ := HF.out.1 rfl
    have HK := hide hks
    clear HF hks
    obtain ⟨r, hrm⟩ : ∃ r : Nat, room.tmod 64 = r := ⟨(room.tmod 64).toNat, by rw [Int.tmod_eq_emod_of_nonneg hr.1]; omega⟩
    have hr2 : r < 64 := by rw [Int.tmod_eq_emod_of_nonneg hr.1] at hrm; omega
    obtain ⟨n, hn⟩ : ∃ n : Nat, n = r + 2 := ⟨_, rfl⟩
    have hn1 : (2 : Int) + r = n := by omega
    have hn2 : 2 ≤ n ∧ n ≤ 65 := by omega
    clear hn hr2
    obtain ⟨tz1, tz2, tz3⟩ := ti_zero (n := n) (by omega)
    have tw0 : TW (List.replicate n tz) 0 := ⟨tz1, tz2, by omega⟩
    have n0 : Hid ((List.replicate n tz).length = n) := List.length_replicate
    have hN := fun W => tb_New W n (by omega)
    generalize List.replicate n tz = l0 at *
    go_enter Try.func4, Try.ntmps4
    go_wp2_with fail
    refine (hFw _ hA).mono ?_
    rintro e w1 ⟨rfl, rfl⟩
    clear hFw
    go_wp2_with fail
    refine (hN _).mono ?_
    rintro e w2 ⟨gT, gS, rfl, h0, hg1, hg2, hb2⟩
    have F := fun {a b : World} (f : FpW [gT, gS] a b) (h : Below w.heap.size w a) => h.trans (f.toBelow h.size (by intro i hi; simp at hi; rcases hi with rfl | rfl <;> assumption))
    clear hN tz1 tz2 hn1 hrm
    go_wp2_with fail
    go_loopw [8] (fun i wr => ∃ (k m : Nat) (L : List TS), k ≤ l.length ∧ i = .int .i64 k ∧ Tb wr gT gS L m ∧ TW L m ∧ Hid (L.length = n) ∧ Hid (∀ v, ¬ hasE L ⟨#[]⟩ v) ∧ Below w.heap.size w wr) (fun i _ => l.length - (intOf i).toNat)
    case atStart => exact ⟨0, 0, l0, Nat.zero_le _, rfl, h0, tw0, n0, hide (fun v => tz3 _ v), hb2⟩
    case round =>
      obtain ⟨k, m, L, hk, rfl, hT, tw, HL, HE, hb⟩ := hrel
      clear h0 tw0 n0 tz3 hb2
      by_cases hlt : k < l.length
      · have hlt' : (k : Int) < l.length := by omega
        obtain ⟨ad, rfl, hab, q0, q1, q2⟩ := (hA.below hb).at7 hlt
        obtain ⟨p0, p1, p2⟩ := hp l[k] (List.getElem_mem hlt)
        have hkx := HK.out l[k] (List.getElem_mem hlt)
        generalize l[k] = x at *
        obtain ⟨kd, xk, xn⟩ := x
        simp only at q0 q1 q2 p0 hkx
        by_cases hx : xk = ⟨#[]⟩
        · subst hx
          go_wp2_with fail
          refine (awake_any _).mono ?_
          rintro e w4 ⟨rfl, hb4⟩
          have hbe := hb.then_ hb4 hb.size
          go_wp2
          go_ret
          exact ⟨rfl, hbe⟩
        · have hbe : (xk.toList == ([] : List UInt8)) = false := by rw [empty_beq]; simpa using hx
          have hD := do_any wr gT gS L m kd xk xn p0 hkx hT tw
          go_wp2_with fail
          refine hD.mono ?_
          rintro e w5 ⟨⟨y1, y2, rfl⟩, L2, m2, hT2, f2, ho⟩
          have ht : TW L2 m2 ∧ Hid (L2.length = n) ∧ Hid (∀ v, ¬ hasE L2 ⟨#[]⟩ v) := by
            rcases ho with ⟨t2, n2, _, o2⟩ | ⟨_, rfl, rfl⟩
            · exact ⟨t2, hide (n2.trans HL.out), hide (fun v c => HE.out v ((o2 _ v (Ne.symm hx)).1 c))⟩
            · obtain ⟨a1, a2, a3⟩ := ti_zero (n := L.length) (by have := HL.out; omega)
              exact ⟨⟨a1, a2, by omega⟩, hide (by rw [List.length_replicate]; exact HL.out), hide (fun v => a3 _ v)⟩
          obtain ⟨t2, HL2, HE2⟩ := ht
          have hb5 := F f2 hb
          clear hD ho f2 hT tw HL HE
          have hSl := fun W h => tb_Slots W gT gS L2 m2 h
          rw [HL2.out] at hSl
          go_wp2_with fail
          refine (hSl _ hT2).mono ?_
          rintro e w6 ⟨A6, c6, rfl, r6, b6⟩
          have hT6 := hT2.step b6
          have hb6 := hb5.then_ b6 hb5.size
          clear hSl hT2 hb5 b6
          go_wp2_with fail
          go_loopw [10, 11] (fun a i wz => ∃ j : Nat, j ≤ n ∧ i = .int .i64 j ∧ a = .int .i64 (lvN L2 j) ∧ Below w6.heap.size w6 wz) (fun _ i _ => n - (intOf i).toNat)
          case atStart => exact ⟨0, Nat.zero_le _, rfl, rfl, Below.refl _ _⟩
          case round =>
            obtain ⟨j, hj, rfl, rfl, hbz⟩ := hrel
            have hcl := lvN_le L2 j
            by_cases hjl : j < n
            · have hjl' : (j : Int) < n := by omega
              have hjL : j < L2.length := by rw [HL2.out]; exact hjl
              have HS := hide (lvN_step L2 j hjL)
              have hkl := key_live t2.ti HE2.out hjL
              have r6z := r6.step hbz
              obtain ⟨a6, rfl, ab6, ac6⟩ := r6z (by intro e; have := keyR_get L2 j hjL; rw [e] at this; simp at this)
              have cj := ac6 j _ (keyR_get L2 j hjL)
              have AC := hide ac6
              clear ac6
              cases hlive : (gt L2 j).live with
              | false =>
                have e0 := hkl.2 hlive
                rw [e0] at cj
                have HS2 := hide (show lvN L2 (j + 1) = lvN L2 j by rw [HS.out, if_neg (by rw [hlive]; simp)]; rfl)
                clear HS hkl hlive e0
                generalize lvN L2 j = cc at *
                go_wp2
                exact ⟨⟨j + 1, by omega, by go_num, by rw [HS2.out], hbz⟩, by simp [intOf]; omega⟩
              | true =>
                have hTz := hT6.step hbz
                have hW := where_at hTz t2 j hjL hlive
                have hkz := hT6.ks j
                have HS2 := hide (show lvN L2 (j + 1) = lvN L2 j + 1 by rw [HS.out, if_pos hlive])
                have hne : ((gt L2 j).k.toList == ([] : List UInt8)) = false := by
                  rw [empty_beq, decide_eq_false_iff_not]; intro e; rw [hkl.1 e] at hlive; cases hlive
                have hOf1 := fun W => hash_Of_any (gt L2 j).k (by unfold maxLen; omega) W
                have hbo := hOf_bdT (gt L2 j).k.data.toList
                have hSl := fun W => hash_Slot_any (hOf (gt L2 j).k.data.toList) (n : Int) hbo.1 hbo.2 (by omega) W
                have hml := hm_lt (n := n) (by omega) (gt L2 j).k
                rw [hm_eq (n := n) (by omega) (gt L2 j).k] at hSl
                have HWay := hide (fun q (hq : q < n) (hd : ds n (hm n (gt L2 j).k) q < ds n (hm n (gt L2 j).k) j) => t2.ti.way j q hjL (by rw [HL2.out]; exact hq) hlive (by rw [HL2.out]; exact hd))
                clear HS hkl hlive hTz
                generalize hm n (gt L2 j).k = h0 at *
                generalize hOf (gt L2 j).k.data.toList = z at *
                generalize (gt L2 j).k = kj at *
                generalize lvN L2 j = cc at *
                go_wp2_with fail
                refine hW.mono ?_
                rintro e w7 ⟨rfl, b7⟩
                have hb7 := hbz.then_ b7 hbz.size
                have cj7 := (b7.cell (p := a6.add j) (by rw [add_block]; exact ab6)).trans cj
                clear hW
                go_wp2_with fail
                refine (hOf1 _).mono ?_
                rintro e w8 ⟨rfl, b8⟩
                have hb8 := hb7.then_ b8 hb7.size
                go_wp2_with fail
                refine (hSl _).mono ?_
                rintro e w9 ⟨rfl, rfl⟩
                have rz := r6.step hb8
                clear hOf1 hSl
                obtain ⟨a6', e6, ab6', ac6'⟩ := rz (by intro e; have := keyR_get L2 j hjL; rw [e] at this; simp at this)
                injection e6 with e6
                subst e6
                have AZ := hide ac6'
                have hnx := fun q (hq : q < n) => nx_eq (n := n) hq
                clear ac6' rz cj cj7
                go_wp2_with fail
                go_loopw [12] (fun a wx => ∃ q : Nat, q < n ∧ a = .int .i64 q ∧ Hid (ds n h0 q ≤ ds n h0 j) ∧ wx = w8) (fun a _ => ds n (intOf a).toNat j)
                case atStart => exact ⟨h0, hml, rfl, hide (by rw [ds_self]; omega), rfl⟩
                case round =>
                  obtain ⟨q, hq, rfl, HQ, rfl⟩ := hrel
                  by_cases hqj : q = j
                  · subst hqj
                    go_wp2
                    exact ⟨⟨q + 1, by omega, by go_num, by rw [HS2.out]; go_num, hb8⟩, by simp [intOf]; omega⟩
                  · have hqb : ((q : Int) != (j : Int)) = true := by rw [bne_iff_ne]; omega
                    have hqI : (q : Int) < n := by omega
                    have hlq : ds n h0 q < ds n h0 j := by
                      have h1 : ds n h0 q ≠ ds n h0 j := fun e => hqj (ds_inj hml hq hjl e)
                      have := HQ.out
                      omega
                    have hqL : q < L2.length := by rw [HL2.out]; exact hq
                    have hliq := HWay.out q hq hlq
                    have cq := AZ.out q _ (keyR_get L2 q hqL)
                    have hneq : ((gt L2 q).k.toList == ([] : List UInt8)) = false := by
                      rw [empty_beq, decide_eq_false_iff_not]
                      intro e
                      have := (key_live t2.ti HE2.out hqL).1 e
                      rw [hliq] at this; cases this
                    have hnq := hnx q hq
                    have hnl := nx_lt hq
                    have hds := ds_less (n := n) hq hjl hqj
                    have HQ2 : Hid (ds n h0 (nx n q) ≤ ds n h0 j) := by
                      unfold Hid
                      rw [ds_nx hml hq (by have := ds_lt hml hjl; omega)]
                      exact hlq
                    have wq1 := IntWalk.i64_in ((nx n q : Nat) : Int) (by omega)
                    clear hnx hlq hliq
                    generalize (gt L2 q).k = kq at *
                    generalize nx n q = q2 at *
                    go_wp2
                    exact ⟨⟨q2, hnl, by first | rfl | go_num, HQ2, by first | rfl | trivial⟩, by simp [intOf]; omega⟩
            · have hjn : ¬ (j : Int) < n := by omega
              have hje : j = n := by omega
              have HC := hide (show lvN L2 j = m2 by rw [hje, ← HL2.out, lvN_all]; exact t2.cnt)
              have hTz := hT6.step hbz
              have hLe := tb_Len _ gT gS L2 m2 hTz
              have hbe := hb6.then_ hbz hb6.size
              have hcap := t2.cap
              rw [HL2.out] at hcap
              rw [HC.out]
              have hq34 : Int.tdiv (3 * (n : Int)) 4 = ((n * 3 / 4 : Nat) : Int) := by rw [Int.tdiv_eq_ediv_of_nonneg (by omega)]; omega
              have w34 := IntWalk.i64_in ((n * 3 / 4 : Nat) : Int) (by omega)
              have hcI : ¬ (((n * 3 / 4 : Nat) : Int) < (m2 : Int)) := by omega
              generalize n * 3 / 4 = n34 at *
              clear hcl hcap
              go_wp2_with fail
              refine hLe.mono ?_
              rintro e w7 ⟨rfl, rfl⟩
              go_wp2
              exact ⟨⟨k + 1, m2, L2, by omega, by go_num, hTz, t2, HL2, HE2, hbe⟩, by simp [intOf]; omega⟩
      · have hkn : ¬ (k : Int) < l.length := by omega
        go_wp2_with fail
        refine (awake_any _).mono ?_
        rintro e w4 ⟨rfl, hb4⟩
        have hbe := hb.then_ hb4 hb.size
        go_wp2
        go_ret
        exact ⟨rfl, hbe⟩
end Go.Proofs.Ytpnhdbejkdoceaa
