/- Law 07: TableLast, walked. -/
import Derived.Test.YtpnhdbejkdoceaaLaw07a
namespace Go.Proofs.Ytpnhdbejkdoceaa
open Go.RowKit Go.Sort
set_option linter.unusedSimpArgs false
set_option linter.unusedVariables false

set_option maxHeartbeats 8000000 in
set_option maxRecDepth 100000 in
theorem TableLast_walk (key : ByteArray) (v v2 : Int) (A : Option Addr) (c : Nat) (l : List AcT) (hkey : key.size ≤ maxLen) (hl : l.length ≤ maxLen) (hp : ∀ p ∈ l, (0 ≤ p.kind ∧ p.kind ≤ 255) ∧ p.key.size ≤ maxLen ∧ -9223372036854775808 ≤ p.n ∧ p.n ≤ 9223372036854775807) (w : World) (hA : Rd w w.heap.size A (atR7 l)) :
    Calls Try.prog 5 #[.string key, .agg #[.int .i64 v, .int .i64 v2], .slice A l.length c] w fun e w' => e = .returned (.bool true) ∧ Below w.heap.size w w' := by
  have hFw := fun W h => few_any W A c 60 l hl (by omega) h
  have HF := hide (fewP_iff (l := l) (most := 60))
  unfold maxLen at hl hkey
  generalize fewP l 60 = fw at *
  go_enter Try.func5, Try.ntmps5
  go_wp2_with fail
  generalize hV : World.alloc w _ = wz at *
  have hbz : Below w.heap.size w wz := by subst hV; (repeat (first | with_reducible exact Below.refl _ _ | with_reducible assumption | with_reducible refine Below.drew ?_ | with_reducible refine Below.drewN ?_ _ | with_reducible refine Below.alloc1 ?_ _ | with_reducible refine Below.setCell1 ?_ (by first | omega | (simp; done) | (simp; omega)) _ | with_reducible refine Below.step ?_ (by with_reducible assumption)))
  have kz : Bk wz w.heap.size 44 [.int .i64 v, .int .i64 v2] := by subst hV; (repeat (first | with_reducible exact Bk.new' _ _ _ _ (by simp; done) | with_reducible assumption | with_reducible refine Bk.alloc ?_ _ | with_reducible refine Bk.drew ?_ | with_reducible refine Bk.drewN ?_ _ | with_reducible refine Bk.step ?_ (by with_reducible assumption) | with_reducible refine Bk.far ?_ (by first | omega | (simp; done) | (simp; omega)) _))
  clear hV
  have kz_0 := kz.cell 0; have kz_f0 := kz.frozen 0; have kz_1 := kz.cell 1; have kz_f1 := kz.frozen 1; simp only [List.set_cons_zero, List.set_cons_succ, List.getElem?_cons_zero, List.getElem?_cons_succ] at kz_0 kz_1; have lt_kz := kz.lt
  go_upto_region 1 with fail
  (refine wp_region_qb (by kernel_rfl) (by kernel_rfl) (fun kq => ?_); (try dsimp only [List.append]); (repeat (go_big_quiet_step ((fail)))); refine wpQuiet_nil ?_; intro wq hwq; have hbq := below_of_class hwq; clear hwq kq)
  replace hbz := hbz.step hbq
  (try clear kz_0 kz_f0 kz_1 kz_f1 lt_kz)
  clear hbq kz
  go_wp2_with fail
  refine (hFw _ ((hA.below hbz).more hbz.size)).mono ?_
  rintro e w1 ⟨rfl, rfl⟩
  clear hFw
  have hw3 : (fw = false) ∨ (fw = true ∧ 64 < key.size) ∨ (fw = true ∧ key.size ≤ 64) := by
    cases fw
    · exact .inl rfl
    · by_cases h : 64 < key.size
      · exact .inr (.inl ⟨rfl, h⟩)
      · exact .inr (.inr ⟨rfl, by omega⟩)
  rcases hw3 with rfl | ⟨rfl, h64⟩ | ⟨rfl, h64⟩
  · go_wp2_with fail
    refine (awake_any _).mono ?_
    rintro e w4 ⟨rfl, hb4⟩
    have hbe := hbz.step hb4
    go_wp2
    go_ret
    exact ⟨rfl, hbe⟩
  · have h64' : (64 : Int) < key.size := by omega
    go_wp2_with fail
    refine (awake_any _).mono ?_
    rintro e w4 ⟨rfl, hb4⟩
    have hbe := hbz.step hb4
    go_wp2
    go_ret
    exact ⟨rfl, hbe⟩
  · have h64' : ¬ (64 : Int) < key.size := by omega
    obtain ⟨hl60, hks⟩ := HF.out.1 rfl
    have HK := hide hks
    clear HF hks
    obtain ⟨tz1, tz2, tz3⟩ := ti_zero (n := 256) (by omega)
    have tw0 : TW (List.replicate 256 tz) 0 := ⟨tz1, tz2, by simp⟩
    have n0 : (List.replicate 256 tz).length = 256 := List.length_replicate
    have hN := tb_New wq 256 (by omega)
    generalize List.replicate 256 tz = l0 at *
    go_wp2_with fail
    refine hN.mono ?_
    rintro e w2 ⟨gT, gS, rfl, h0, hg1, hg2, hb2⟩
    have hs0 := hbz.size
    replace hbz := hbz.step hb2
    have F := fun {a b : World} (f : FpW [gT, gS] a b) (h : Below w.heap.size w a) => h.trans (f.toBelow h.size (by intro i hi; simp at hi; rcases hi with rfl | rfl <;> omega))
    clear hN tz1 tz2
    go_wp2_with fail
    refine (put_c h0 tw0 key v h64 (.inr (by omega))).mono ?_
    rintro e w3 ⟨rfl, l1, m1, h1, tw1, n1, u1, _, x1, f1⟩
    have hb3 := F f1 hbz
    obtain rfl : m1 = 1 := x1 (nok fun v => tz3 key v)
    have e1 : hasE l1 key v := u1.hasK
    have nn1 : l1.length = 256 := by omega
    clear u1 h0 hbz tz3 tw0 n0 n1 x1 f1
    go_wp2_with fail
    go_loopw [12] (fun i wr => ∃ (k m : Nat) (L : List TS), k ≤ l.length ∧ i = .int .i64 k ∧ Tb wr gT gS L m ∧ TW L m ∧ Hid (L.length = 256) ∧ hasE L key v ∧ m ≤ 1 + k ∧ Below w.heap.size w wr) (fun i _ => l.length - (intOf i).toNat)
    case atStart => exact ⟨0, 1, l1, Nat.zero_le _, rfl, h1, tw1, nn1, e1, Nat.le_refl _, hb3⟩
    case round =>
      obtain ⟨k, m, L, hk, rfl, hT, tw, HL, he, hmk, hb⟩ := hrel
      clear h1 tw1 nn1 e1 hb3
      by_cases hlt : k < l.length
      · have hlt' : (k : Int) < l.length := by omega
        obtain ⟨ad, rfl, hab, q0, q1, q2⟩ := (hA.below hb).at7 hlt
        obtain ⟨p0, p1, p2⟩ := hp l[k] (List.getElem_mem hlt)
        have hkx := HK.out l[k] (List.getElem_mem hlt)
        generalize l[k] = x at *
        obtain ⟨kd, xk, xn⟩ := x
        simp only at q0 q1 q2 p0 hkx
        obtain ⟨kk, hkk⟩ : ∃ kk, kd.tmod 6 = kk := ⟨_, rfl⟩
        by_cases hx : xk = key
        · have hbn : (xk.toList != key.toList) = false := by rw [bne, txt_beq]; simpa using hx
          subst hx
          go_wp2
          exact ⟨⟨k + 1, m, L, by omega, by go_num, hT, tw, HL, he, by omega, hb⟩, by simp [intOf]; omega⟩
        · have hbn : (xk.toList != key.toList) = true := by rw [bne, txt_beq]; simpa using hx
          have hbe : (xk.toList == key.toList) = false := by rw [txt_beq]; simpa using hx
          by_cases h5 : kk = 5
          · have hb5 : (kk != 5) = false := by simpa using h5
            clear h5
            go_wp2
            exact ⟨⟨k + 1, m, L, by omega, by go_num, hT, tw, HL, he, by omega, hb⟩, by simp [intOf]; omega⟩
          · have hb5 : (kk != 5) = true := by simpa using h5
            have hD := do_any wr gT gS L m kd xk xn p0 hkx hT tw
            rw [hkk] at hD
            go_wp2_with fail
            refine hD.mono ?_
            rintro e w5 ⟨⟨y1, y2, rfl⟩, L2, m2, hT2, f2, ho | ⟨c5, _⟩⟩
            · obtain ⟨t2, n2, x2, o2⟩ := ho
              have he2 : hasE L2 key v := (o2 key v (Ne.symm hx)).2 he
              have hb2 := F f2 hb
              have HL2 := hide (n2.trans HL.out)
              clear hD n2
              go_wp2
              exact ⟨⟨k + 1, m2, L2, by omega, by go_num, hT2, t2, HL2, he2, by omega, hb2⟩, by simp [intOf]; omega⟩
            · exact absurd c5 h5
      · have hkn : ¬ (k : Int) < l.length := by omega
        go_wp2_with fail
        refine (get_c hT tw key v (by omega) he).mono ?_
        rintro e w4 ⟨rfl, b4⟩
        have h4 := hT.step b4
        have hb4 := hb.then_ b4 hb.size
        go_wp2_with fail
        refine (put_c h4 tw key v2 h64 (.inl (hasE_K he))).mono ?_
        rintro e w5 ⟨rfl, l5, m5, h5, tw5, n5, u5, _, _, f5⟩
        have hb5 := F f5 hb4
        have e5 : hasE l5 key v2 := u5.hasK
        clear n5 u5
        go_wp2_with fail
        refine (get_c h5 tw5 key v2 (by omega) e5).mono ?_
        rintro e w6 ⟨rfl, b6⟩
        have h6 := h5.step b6
        have hb6 := hb5.then_ b6 hb5.size
        go_wp2_with fail
        refine (del_c h6 tw5 key (by omega) (hasE_K e5)).mono ?_
        rintro e w7 ⟨rfl, l7, m7, h7, tw7, n7, x7, u7, f7⟩
        have hb7 := F f7 hb6
        have k7 : ¬ hasK l7 key := nok fun v => by rw [u7]; simp
        clear n7 x7 u7
        go_wp2_with fail
        refine (get_n h7 tw7 key (by omega) k7).mono ?_
        rintro e w8 ⟨rfl, b8⟩
        have h8 := h7.step b8
        have hb8 := hb7.then_ b8 hb7.size
        go_wp2_with fail
        refine (where_n h8 tw7 key (by omega) k7).mono ?_
        rintro e w9 ⟨rfl, b9⟩
        have hb9 := hb8.then_ b9 hb8.size
        go_wp2_with fail
        refine (awake_any _).mono ?_
        rintro e w10 ⟨rfl, b10⟩
        have hbe := hb9.then_ b10 hb9.size
        go_wp2
        go_ret
        exact ⟨rfl, hbe⟩
end Go.Proofs.Ytpnhdbejkdoceaa
