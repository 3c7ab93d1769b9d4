/- Law 15: WheelOnce, walked. -/
import Derived.Test.YtbljiohdfjmhfaaLaw15b
import Derived.Test.YtbljiohdfjmhfaaOn15
import Derived.Deep.DeepCutAuto
import Derived.Deep.RegionHeld3
namespace Go.Proofs.Ytbljiohdfjmhfaa
open Go.RowKit Go.Sort Go.Maps
open Dn (ltP)
set_option linter.unusedSimpArgs false
set_option linter.unusedVariables false

theorem Bk.fp {fp : List Nat} {a b : World} {g : Nat} {t : TypeId} {cs : List Value} (h : Bk a g t cs) (f : FpW fp a b) (hn : g ∉ fp) : Bk b g t cs := (f.block g h.lt hn).trans h
theorem Wh.far {W : World} {g wm : Nat} {ad : Addr} {rs : List Nat} {S : WS} (h : Wh W g wm ad rs S) {p : Addr} (hp : p.block ∉ fpOf g wm ad rs) (u : Value) : Wh (W.setCell p u) g wm ad rs S :=
  h.frame (fp := [p.block]) ⟨rfl, rfl, rfl, by simp [World.setCell], fun i hi hn => Below.heap_setCell _ _ _ _ (by simpa using hn)⟩ (fun i hi hm => hp (by simp at hm; exact hm ▸ hi))
theorem wh_Go_any (W : World) (g wm : Nat) (ad : Addr) (rs : List Nat) (S : WS) (now : Int) (h : Wh W g wm ad rs S) (hno : S.now ≤ now ∧ now ≤ 1099511627776) :
    Calls Try.prog 14 #[.pointer (some ⟨g, 0, none⟩), .int .i64 now] W fun e w' => ∃ A c l, e = .returned (.slice A l.length c) ∧ l.Perm (S.l.filter (fun p => decide (p.2 ≤ now))) ∧ SoR l ∧ Rd w' w'.heap.size A (duR l) ∧ Fr W.heap.size A ∧
      Wh w' g wm ad rs { S with now := now, l := S.l.filter (fun p => decide (now < p.2)) } ∧ FpW (fpOf g wm ad rs) W w' := by
  by_cases hg : S.now < now
  · refine (wh_Go W g wm ad rs S now h ⟨hg, hno.2⟩).mono ?_
    rintro e w' ⟨A, c, l, e1, hp, hs, r, f, v, fp⟩
    refine ⟨A, c, l, e1, hp, ord_all hs ?_, r, f, v, fp⟩
    have := (List.filter_sublist (l := S.l) (p := fun p => decide (p.2 ≤ now))).map (·.1) |>.nodup h.nodup
    exact (hp.map (·.1)).nodup_iff.2 this
  · obtain ⟨n, t, L⟩ := S
    simp only at hg hno
    have e : t = now := by omega
    subst e
    refine (wh_Go_no W g wm ad rs ⟨n, t, L⟩ t h (.inl (Int.le_refl _))).mono ?_
    rintro e w' ⟨rfl, hb⟩
    have h1 : L.filter (fun p => decide (p.2 ≤ t)) = [] := List.filter_eq_nil_iff.2 fun p hp => by have hh := h.ok p hp; simp only at hh; simp; omega
    have h2 : L.filter (fun p => decide (t < p.2)) = L := List.filter_eq_self.2 fun p hp => by have hh := h.ok p hp; simp only at hh; simp; omega
    refine ⟨none, 0, [], rfl, by simp only [h1]; exact .refl _, List.Pairwise.nil, Rd.nil, Fr.none _, ?_, FpW.of hb⟩
    simp only [h2]
    exact h.step hb
theorem zero256 (W : World) : (zeroValue 58).run Try.prog W = .ok (.agg (atR []).toArray) W := by kernel_rfl
set_option maxHeartbeats 4000000 in
set_option maxRecDepth 100000 in
theorem WheelOnce_walk (s : Int) (A : Option Addr) (c : Nat) (l : List Pln) (hs : 0 ≤ s ∧ s ≤ 255) (hl : l.length ≤ maxLen) (hp : ∀ p ∈ l, (0 ≤ p.id ∧ p.id ≤ 255) ∧ (0 ≤ p.inn ∧ p.inn ≤ 255) ∧ 0 ≤ p.gap ∧ p.gap ≤ 255) (w : World) (hA : Rd w w.heap.size A (plR l)) :
    Calls Try.prog 5 #[.int .u8 s, .slice A l.length c] w fun e w' => e = .returned (.bool true) ∧ Below w.heap.size w w' := by
  unfold maxLen at hl
  by_cases h80 : 80 < l.length
  · have h80' : (80 : Int) < l.length := by omega
    go_enter Try.func5, Try.ntmps5
    go_wp2_with fail
    refine (awake_any _).mono ?_
    rintro e w' ⟨rfl, hb⟩
    go_wp2
    go_ret
    exact ⟨rfl, hb⟩
  · have h80' : ¬ (80 : Int) < l.length := by omega
    obtain ⟨n, hn⟩ : ∃ n : Nat, s.tmod 32 = n := ⟨(s.tmod 32).toNat, by rw [Int.tmod_eq_emod_of_nonneg hs.1]; omega⟩
    have hn2 : n < 32 := by rw [Int.tmod_eq_emod_of_nonneg hs.1] at hn; omega
    go_enter Try.func5, Try.ntmps5
    go_wp2_with fail
    rw [show (1 + (n : Int)) = ((n + 1 : Nat) : Int) by omega]
    refine (wh_New _ (n + 1) (by omega)).mono ?_
    rintro e w1 ⟨hb1, gv, wv, av, rv, rfl, v1, fv⟩
    have lv := v1.lt
    have hzz := zero256
    go_wp2_with fail
    clear hzz
    have k0 : Bk (w1.alloc (.cells (atR []).toArray 58)) w1.heap.size 58 (atR []) := Bk.new _ _ _
    have v2 : Wh (w1.alloc (.cells (atR []).toArray 58)) gv wv av rv { n := n + 1, now := 0, l := [] } := v1.step (by (repeat (first | with_reducible exact Below.refl _ _ | with_reducible assumption | with_reducible refine Below.drew ?_ | with_reducible refine Below.drewN ?_ _ | with_reducible refine Below.alloc1 ?_ _ | with_reducible refine Below.setCell1 ?_ (by first | omega | (simp; done) | (simp; omega)) _ | with_reducible refine Below.step ?_ (by with_reducible assumption))))
    have hbw : Below w.heap.size w (w1.alloc (.cells (atR []).toArray 58)) := by (repeat (first | with_reducible exact Below.refl _ _ | with_reducible assumption | with_reducible refine Below.drew ?_ | with_reducible refine Below.drewN ?_ _ | with_reducible refine Below.alloc1 ?_ _ | with_reducible refine Below.setCell1 ?_ (by first | omega | (simp; done) | (simp; omega)) _ | with_reducible refine Below.step ?_ (by with_reducible assumption)))
    have hd : w1.heap.size ∉ fpOf gv wv av rv := fun h => by have := lv _ h; omega
    have hz1 := hb1.size
    clear v1 lv hb1
    generalize World.alloc w1 _ = w2 at *
    generalize w1.heap.size = gA at *
    have F1 := fun {x y : World} (f : FpW (fpOf gv wv av rv) x y) (h : Below w.heap.size w x) => h.trans (f.toBelow h.size fv)
    clear hn
    go_loopw [8, 9] (fun t i wr => ∃ (k : Nat) (T : Int) (L : IL), k ≤ l.length ∧ i = .int .i64 k ∧ t = .int .i64 T ∧ 0 ≤ T ∧ T ≤ 255 * k ∧ Wh wr gv wv av rv ⟨n + 1, T, L⟩ ∧ Bk wr gA 58 (atR L) ∧ Below w.heap.size w wr) (fun _ i _ => l.length - (intOf i).toNat)
    case atStart => exact ⟨0, 0, [], Nat.zero_le _, rfl, rfl, by omega, by omega, v2, k0, hbw⟩
    case round =>
      obtain ⟨k, T, L, hk, rfl, rfl, hT0, hT1, v, kA, hbr⟩ := hrel
      clear v2 hbw k0
      by_cases hlt : k < l.length
      · have hlt' : (k : Int) < l.length := by omega
        obtain ⟨ad, rfl, _, q0, q1, q2, q3⟩ := (hA.below hbr).pl hlt
        obtain ⟨p0, p1, p2⟩ := hp l[k] (List.getElem_mem hlt)
        generalize l[k] = x at *
        obtain ⟨id0, inn, gap, stop⟩ := x
        simp only at q0 q1 q2 q3 p0 p1 p2
        obtain ⟨id, rfl⟩ : ∃ id : Nat, id0 = id := ⟨id0.toNat, by omega⟩
        have hid : id < 256 := by omega
        have ca := (kA.cell id).trans (atR_get L id hid)
        have cf := kA.frozen id
        have la := kA.lt
        have ea : ∀ i : Nat, (⟨gA, 0, none⟩ : Addr).add i = ⟨gA, i, none⟩ := fun i => by unfold Addr.add; split <;> simp_all
        have hpos := atN_pos (L := L) (fun p hp => by have hh := v.ok p hp; simp only at hh; omega) id
        obtain ⟨q, hq⟩ : ∃ q, (lookK (id : Int) L).isSome = q := ⟨_, rfl⟩
        rw [hq] at hpos
        have hSt : ∀ W, Wh W gv wv av rv ⟨n + 1, T, L⟩ → Calls Try.prog 10 #[.pointer (some ⟨gv, 0, none⟩), .int .i64 (id : Int)] W fun e w' => e = .returned (.bool q) ∧ Wh w' gv wv av rv ⟨n + 1, T, dropK id L⟩ ∧ FpW (fpOf gv wv av rv) W w' := fun W h => by
          rw [← hq]; exact wh_Stop W gv wv av rv ⟨n + 1, T, L⟩ id (wfi (by omega)) h
        have hset : setOk id (T + 1 + inn) T = true := by simp [setOk]; omega
        have hSe : ∀ W, Wh W gv wv av rv ⟨n + 1, T, L⟩ → Calls Try.prog 17 #[.pointer (some ⟨gv, 0, none⟩), .int .i64 (id : Int), .int .i64 (T + 1 + inn)] W fun e w' => e = .returned (.int .i64 0) ∧ Wh w' gv wv av rv ⟨n + 1, T, (id, T + 1 + inn) :: dropK id L⟩ ∧ FpW (fpOf gv wv av rv) W w' := fun W h => by
          have h2 := wh_Set W gv wv av rv ⟨n + 1, T, L⟩ id (T + 1 + inn) (wfi (by omega)) (wfi (by omega)) h
          simpa only [hset, if_true] using h2
        have HU := hide (atR_del L id)
        have HU2 := hide (atR_set L id (T + 1 + inn))
        clear hq hset
        have hinn : ∀ (W' : World), Below w.heap.size wr W' → W'.cell? { block := (ad.add (k * 4)).block, off := (ad.add (k * 4)).off + 1 } = some (.int .u8 inn) := fun W' h => (h.cell (by simp only [add_block]; omega)).trans q1
        have hgap : ∀ (W' : World), Below w.heap.size wr W' → W'.cell? { block := (ad.add (k * 4)).block, off := (ad.add (k * 4)).off + 2 } = some (.int .u8 gap) := fun W' h => (h.cell (by simp only [add_block]; omega)).trans q2
        go_upto_if 52 with fail
        go_cut [8] from 53 to 86 (fun t wx => t = .int .i64 T ∧ ∃ L', Wh wx gv wv av rv ⟨n + 1, T, L'⟩ ∧ Bk wx gA 58 (atR L') ∧ Below w.heap.size wr wx)
        case first =>
          cases stop with
          | true =>
            go_upto_region 13 with fail
            go_region_with ((go_at_call 10; refine (hSt _ (v.step (by (repeat (first | with_reducible exact Below.refl _ _ | with_reducible assumption | with_reducible refine Below.drew ?_ | with_reducible refine Below.drewN ?_ _ | with_reducible refine Below.alloc1 ?_ _ | with_reducible refine Below.setCell1 ?_ (by first | omega | (simp; done) | (simp; omega)) _ | with_reducible refine Below.step ?_ (by with_reducible assumption)))))).mono ?_; rintro e w3 ⟨rfl, v3, f3⟩; (have k3 := (Bk.drew kA).fp f3 hd); (have ca3 := (k3.cell id).trans (atR_get L id hid)); (have cf3 := k3.frozen id); (have la3 := k3.lt)))
            all_goals
              have g3 : Below w.heap.size wr w3 := (show Below w.heap.size wr wr.drew by (repeat (first | with_reducible exact Below.refl _ _ | with_reducible assumption | with_reducible refine Below.drew ?_ | with_reducible refine Below.drewN ?_ _ | with_reducible refine Below.alloc1 ?_ _ | with_reducible refine Below.setCell1 ?_ (by first | omega | (simp; done) | (simp; omega)) _ | with_reducible refine Below.step ?_ (by with_reducible assumption)))).trans (f3.toBelow (by simpa using hbr.size) fv)
              go_wp2
              go_meet
              exact ⟨rfl, _, v3.far hd _, by rw [← HU.out]; exact k3.set_ id _, g3.setCell hz1 _⟩
          | false =>
            have hbI := hinn wr (Below.refl _ _)
            go_wp2_with fail
            refine (hSe _ v).mono ?_
            rintro e w3 ⟨rfl, v3, f3⟩
            have k3 := kA.fp f3 hd
            have g3 : Below w.heap.size wr w3 := f3.toBelow hbr.size fv
            have ca3 := (k3.cell id).trans (atR_get L id hid)
            have cf3 := k3.frozen id
            have la3 := k3.lt
            have hb3 := hinn w3 g3
            go_wp2
            go_meet
            exact ⟨rfl, _, v3.far hd _, by rw [← HU2.out]; exact k3.set_ id _, g3.setCell hz1 _⟩
        case rest =>
          obtain ⟨rfl, L1, v1, k1, g1⟩ := hcut
          have hgp := hgap _ g1
          have hb1 := hbr.trans g1
          clear hSt hSe HU HU2 hinn hgap ca cf kA v hpos q0 q1 q2 q3
          have hGo := wh_Go_any wc gv wv av rv ⟨n + 1, T, L1⟩ (T + gap) v1 (by simp only; omega)
          simp only at hGo
          have hok1 := fun p hp => v1.ok p hp
          have hnd1 := v1.nodup
          simp only at hok1 hnd1
          have few := v1.few
          have lA := k1.lt
          clear v1
          go_wp2_with fail
          refine hGo.mono ?_
          rintro e w5 ⟨A5, c5, m, rfl, pm, so, r5, fr5, v5, f5⟩
          have k5 := k1.fp f5 hd
          have hb5 := F1 f5 hb1
          have fl : m.length ≤ 256 := by
            have := pm.length_eq
            have := List.length_filter_le (fun p : Int × Int => decide (p.2 ≤ T + gap)) L1
            (try simp only at few)
            omega
          have HM := hide (fun p (hp : p ∈ m) => show p ∈ L1 ∧ p.2 ≤ T + gap by
            have := List.mem_filter.1 (pm.mem_iff.1 hp)
            exact ⟨this.1, by simpa using this.2⟩)
          have hndm : (m.map (·.1)).Nodup := (pm.map (·.1)).nodup_iff.2 ((List.filter_sublist.map _).nodup hnd1)
          have HN := hide hndm
          have HN1 := hide hnd1
          have HO := hide so
          have HK := hide hok1
          have HD := hide (drop_due hnd1 pm)
          have fr : ∀ a, A5 = some a → gA < a.block := fun a e => by have := fr5 a e; omega
          clear hGo pm so f5 fr5 hndm hnd1 hok1 k1 hgp g1 lA
          generalize L1.filter (fun p => decide (T + gap < p.2)) = L2 at *
          go_wp2_with fail
          go_loopw [12, 13, 14] (fun a b i wz => ∃ (j : Nat) (t u : Int), j ≤ m.length ∧ i = .int .i64 j ∧ a = .int .i64 t ∧ b = .int .i64 u ∧ Hid (∀ q ∈ m.drop j, Ltr u t q) ∧ Wh wz gv wv av rv ⟨n + 1, T + gap, L2⟩ ∧ Bk wz gA 58 (atR (dropAll (m.take j) L1)) ∧ Rd wz wz.heap.size A5 (duR m) ∧ Below w.heap.size w wz) (fun _ _ i _ => m.length - (intOf i).toNat)
          case atStart => exact ⟨0, 0, -1, Nat.zero_le _, rfl, rfl, rfl, hide (fun q hq => by
            have h1 := HK.out q (HM.out q (List.mem_of_mem_drop hq)).1
            unfold Ltr; omega), v5, by
              have : dropAll (m.take 0) L1 = L1 := List.filter_eq_self.2 fun p _ => by simp
              rw [this]; exact k5, r5, hb5⟩
          case round =>
            obtain ⟨j, t, u, hj, rfl, rfl, rfl, HL, v6, k6, r6, hb6⟩ := hrel
            clear v5 k5 r5 hb5
            by_cases hjl : j < m.length
            · have hjl' : (j : Int) < m.length := by omega
              obtain ⟨a6, rfl, _, z0, z1⟩ := r6.du hjl
              have hmx := HM.out m[j] (List.getElem_mem hjl)
              have hbx := HK.out m[j] hmx.1
              have hlx := HL.out m[j] (List.mem_drop_iff_getElem.2 ⟨0, by omega, rfl⟩)
              have HNX := hide (ord_next HO.out hjl)
              have HDS := hide (drop_step (m.take j) m[j] L1)
              rw [← take_snocL m j hjl] at HDS
              have HAT := hide (fun (i : Nat) (hi : m[j].1 = i) => atN_mem (nodup_dropAll (o := m.take j) HN1.out) (still_there HN.out (fun p hp => (HM.out p hp).1) hjl) hi)
              replace hmx := hmx.2
              generalize m[j] = x at *
              obtain ⟨xi, y⟩ := x
              obtain ⟨xn, rfl⟩ : ∃ xn : Nat, xi = xn := ⟨xi.toNat, by simp only at hbx; omega⟩
              simp only at z0 z1 hmx hbx hlx HNX HDS HAT
              have hx256 : xn < 256 := by omega
              have HU := hide (atR_del (dropAll (m.take j) L1) xn)
              rw [HDS.out] at HU
              have hat := HAT.out xn rfl
              have e0 := (k6.cell xn).trans (atR_get _ xn hx256)
              rw [hat] at e0
              have ef := k6.frozen xn
              have el := k6.lt
              clear HAT HDS
              have b0 : decide ((xn : Int) < 0) = false := by rw [decide_eq_false_iff_not]; omega
              have b1 : decide (255 < (xn : Int)) = false := by rw [decide_eq_false_iff_not]; omega
              have b3 : decide (T + gap < y) = false := by rw [decide_eq_false_iff_not]; omega
              have b4 : decide (y < t) = false := by rw [decide_eq_false_iff_not]; unfold Ltr at hlx; omega
              have bw : (y = t ∧ decide ((xn : Int) ≤ u) = false ∧ (y == t) = true) ∨ (y == t) = false := by
                unfold Ltr at hlx
                by_cases h : y = t
                · exact .inl ⟨h, by rw [decide_eq_false_iff_not]; omega, by simpa using h⟩
                · exact .inr (by simpa using h)
              clear hlx hmx HL
              go_upto_region 26 with fail
              generalize hV : World.alloc wr _ = w6
              have hyb : Below wr.heap.size wr w6 := by subst hV; (repeat (first | with_reducible exact Below.refl _ _ | with_reducible assumption | with_reducible refine Below.drew ?_ | with_reducible refine Below.drewN ?_ _ | with_reducible refine Below.alloc1 ?_ _ | with_reducible refine Below.setCell1 ?_ (by first | omega | (simp; done) | (simp; omega)) _ | with_reducible refine Below.step ?_ (by with_reducible assumption)))
              have kx : Bk w6 wr.heap.size 62 [.int .i64 (xn : Int), .int .i64 y] := by subst hV; (repeat (first | with_reducible exact Bk.new' _ _ _ _ (by simp; done) | with_reducible assumption | with_reducible refine Bk.alloc ?_ _ | with_reducible refine Bk.drew ?_ | with_reducible refine Bk.drewN ?_ _ | with_reducible refine Bk.step ?_ (by with_reducible assumption) | with_reducible refine Bk.far ?_ (by first | omega | (simp; done) | (simp; omega)) _))
              clear hV
              have k7 := k6.step hyb
              replace v6 := v6.step hyb
              replace r6 := r6.step hyb
              replace hb6 := hb6.step hyb
              have e7 := (k7.cell xn).trans (atR_get _ xn hx256)
              rw [hat] at e7
              have f7 := k7.frozen xn
              have l7 := k7.lt
              clear k6 e0 ef hyb
              have kx_0 := kx.cell 0; have kx_f0 := kx.frozen 0; have kx_1 := kx.cell 1; have kx_f1 := kx.frozen 1; simp only [List.set_cons_zero, List.set_cons_succ, List.getElem?_cons_zero, List.getElem?_cons_succ] at kx_0 kx_1; have lt_kx := kx.lt
              rcases bw with ⟨rfl, bw1, bw2⟩ | bw2
              all_goals
                (refine wp_region_qb (by kernel_rfl) (by kernel_rfl) (fun kq => ?_); (try dsimp only [List.append]); (repeat (go_big_quiet_step ((fail)))); refine wpQuiet_nil ?_; intro wq hwq; have hbq := below_of_class hwq; clear hwq kq)
                replace k7 := k7.step hbq
                replace kx := kx.step hbq
                replace v6 := v6.step hbq
                replace r6 := r6.step hbq
                replace hb6 := hb6.step hbq
                have g7 := k7.frozen xn
                have m7 := k7.lt
                have e8 := (k7.cell xn).trans (atR_get _ xn hx256)
                have hxI : (xn : Int) < 256 := by omega
                (try clear kx_0 kx_f0 kx_1 kx_f1 lt_kx)
                clear e7 f7 l7 hbq
                have kx_0 := kx.cell 0; have kx_f0 := kx.frozen 0; have kx_1 := kx.cell 1; have kx_f1 := kx.frozen 1; simp only [List.set_cons_zero, List.set_cons_succ, List.getElem?_cons_zero, List.getElem?_cons_succ] at kx_0 kx_1; have lt_kx := kx.lt
                go_upto_region 28 with fail
                go_region
                go_wp2
                exact ⟨⟨j + 1, _, xn, by omega, by go_num, rfl, rfl, HNX, (v6.far hd _).step (by (repeat (first | with_reducible exact Below.refl _ _ | with_reducible assumption | with_reducible refine Below.drew ?_ | with_reducible refine Below.drewN ?_ _ | with_reducible refine Below.alloc1 ?_ _ | with_reducible refine Below.setCell1 ?_ (by first | omega | (simp; done) | (simp; omega)) _ | with_reducible refine Below.step ?_ (by with_reducible assumption)))), by rw [← HU.out]; exact (k7.set_ xn _).drew, (r6.farA fr _).step (by (repeat (first | with_reducible exact Below.refl _ _ | with_reducible assumption | with_reducible refine Below.drew ?_ | with_reducible refine Below.drewN ?_ _ | with_reducible refine Below.alloc1 ?_ _ | with_reducible refine Below.setCell1 ?_ (by first | omega | (simp; done) | (simp; omega)) _ | with_reducible refine Below.step ?_ (by with_reducible assumption)))), (hb6.setCell hz1 _).drew⟩, by simp [intOf]; omega⟩
            · have hjn : ¬ (j : Int) < m.length := by omega
              have hje : j = m.length := by omega
              subst hje
              rw [List.take_length, HD.out] at k6
              clear HM HN HN1 HO HD HL HK
              have HV := hide (fun p hp => v6.ok p hp)
              have HNV := hide v6.nodup
              have hLen := wh_Len wr gv wv av rv ⟨n + 1, T + gap, L2⟩ v6
              have HC := hide (cnt_all L2 v6.nodup (fun p hp => by have hh := v6.ok p hp; simp only at hh; omega))
              have few2 := v6.few
              simp only at hLen few2 HV
              go_wp2_with fail
              go_loopw [16, 17] (fun a i wz => ∃ j : Nat, j ≤ 256 ∧ i = .int .i64 j ∧ a = .int .i64 (cntL L2 j) ∧ wz = wr) (fun _ i _ => 256 - (intOf i).toNat)
              case atStart => exact ⟨0, by omega, rfl, rfl, rfl⟩
              case round =>
                obtain ⟨j, hj, rfl, rfl, rfl⟩ := hrel
                have HCS := hide (cnt_step L2 j)
                by_cases hjl : j < 256
                · have hjl' : (j : Int) < 256 := by omega
                  have ca := (k6.cell j).trans (atR_get L2 j hjl)
                  have cf := k6.frozen j
                  have hcl := cnt_le L2 j
                  by_cases h0 : 0 < atN L2 j
                  · have hc1 : Hid (cntL L2 (j + 1) = cntL L2 j + 1) := by unfold Hid; rw [HCS.out, if_pos h0]
                    have hgt : ¬ atN L2 j ≤ T + gap := by have := (HV.out _ (atN_some h0)).2.2.1; omega
                    clear HCS HC
                    generalize atN L2 j = vv at *
                    generalize hcc : cntL L2 j = cc at *
                    go_wp2
                    go_roundw
                    case rel => exact ⟨j + 1, by omega, by go_num, by rw [hc1.out]; go_num, by first | rfl | trivial⟩
                    case measure => simp [intOf]; omega
                  · have hc1 : Hid (cntL L2 (j + 1) = cntL L2 j) := by unfold Hid; rw [HCS.out, if_neg h0]; rfl
                    clear HCS HC
                    generalize atN L2 j = vv at *
                    generalize hcc : cntL L2 j = cc at *
                    go_wp2
                    go_roundw
                    case rel => exact ⟨j + 1, by omega, by go_num, by rw [hc1.out], by first | rfl | trivial⟩
                    case measure => simp [intOf]; omega
                · have hjn2 : ¬ (j : Int) < 256 := by omega
                  have hje2 : j = 256 := by omega
                  subst hje2
                  rw [HC.out] at *
                  go_wp2_with fail
                  refine hLen.mono ?_
                  rintro e w9 ⟨rfl, hb9⟩
                  have v9 := v6.step hb9
                  have k9 := k6.step hb9
                  have hbe := hb6.then_ hb9 hb6.size
                  go_wp2
                  exact ⟨⟨k + 1, T + gap, L2, by omega, by go_num, rfl, by omega, by omega, v9, k9, hbe⟩, by simp [intOf]; omega⟩
      · have hkn : ¬ (k : Int) < l.length := by omega
        go_wp2_with fail
        refine (awake_any _).mono ?_
        rintro e w' ⟨rfl, hb⟩
        go_wp2
        go_ret
        exact ⟨rfl, hbr.then_ hb hbr.size⟩
end Go.Proofs.Ytbljiohdfjmhfaa
