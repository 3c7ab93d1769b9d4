/- Package table: fits, Del. -/
import Derived.Test.YtpnhdbejkdoceaaTb2
namespace Go.Proofs.Ytpnhdbejkdoceaa
open Go.RowKit Go.Sort
set_option linter.unusedSimpArgs false
set_option linter.unusedVariables false

theorem Tb.drew {W : World} {gT gS : Nat} {l : List TS} {m : Nat} (h : Tb W gT gS l m) : Tb W.drew gT gS l m := ⟨h.tab.drew, h.row.drew, h.ne, h.n, h.ks⟩
theorem FpW.drew {fp : List Nat} {a b : World} (h : FpW fp a b) : FpW fp a b.drew := h.trans ⟨rfl, rfl, rfl, Nat.le_refl _, fun _ _ _ => rfl⟩
theorem tb_fits (W : World) (gT gS : Nat) (l : List TS) (m : Nat) (a g : Nat) (ha : a < l.length) (hg : g < l.length) (h : Tb W gT gS l m) :
    Calls Try.prog 31 #[.pointer (some ⟨gT, 0, none⟩), .int .i64 a, .int .i64 g] W fun e w' => e = .returned (.bool (fit l a g)) ∧ Below W.heap.size W w' := by
  have hn := h.n
  have hml := hm_lt (n := l.length) (by omega) (gt l a).k
  have hH := fun W hb => tb_home W gT gS l m (gt l a).k (by have := h.ks a; omega) (h.step hb)
  have d1 := ds_eq hml ha
  have d2 := ds_eq hg ha
  have c0 := h.tab.cell 0
  simp at c0
  have hlt := h.tab.lt
  obtain ⟨e0, e1, e2⟩ := h.at_ ha
  have haI : (a : Int) < l.length := by omega
  have HF := hide (show fit l a g = decide ((ds l.length g a : Int) ≤ (ds l.length (hm l.length (gt l a).k) a : Int)) by unfold fit; rw [decide_eq_decide]; omega)
  have b1 := ds_lt hml ha
  have b2 := ds_lt hg ha
  generalize fit l a g = F at *
  generalize hm l.length (gt l a).k = h0 at *
  generalize (gt l a).k = k at *
  generalize ds l.length h0 a = z1 at *
  generalize ds l.length g a = z2 at *
  have w1 := IntWalk.i64_in ((a : Int) - h0) (by omega)
  have w2 := IntWalk.i64_in ((a : Int) - h0 + l.length) (by omega)
  have w3 := IntWalk.i64_in ((a : Int) - g) (by omega)
  have w4 := IntWalk.i64_in ((a : Int) - g + l.length) (by omega)
  have w5 := IntWalk.i64_in (z1 : Int) (by omega)
  have w6 := IntWalk.i64_in (z2 : Int) (by omega)
  have hn0 : ¬ (l.length : Int) = 0 := by omega
  clear h
  go_enter Try.func31, Try.ntmps31
  go_wp2_with fail
  refine (hH _ (by (repeat (first | with_reducible exact Below.refl _ _ | with_reducible assumption | with_reducible refine Below.drew ?_ | with_reducible refine Below.drewN ?_ _ | with_reducible refine Below.alloc1 ?_ _ | with_reducible refine Below.setCell1 ?_ (by first | omega | (simp; done) | (simp; omega)) _ | with_reducible refine Below.step ?_ (by with_reducible assumption))))).mono ?_
  rintro e wx ⟨rfl, hb1⟩
  go_wp2_with fail
  go_region
  go_wp2
  go_ret
  exact ⟨ret_bool (by rw [HF.out, decide_eq_decide]; omega), by (repeat (first | with_reducible exact Below.refl _ _ | with_reducible assumption | with_reducible refine Below.drew ?_ | with_reducible refine Below.drewN ?_ _ | with_reducible refine Below.alloc1 ?_ _ | with_reducible refine Below.setCell1 ?_ (by first | omega | (simp; done) | (simp; omega)) _ | with_reducible refine Below.step ?_ (by with_reducible assumption)))⟩
set_option maxHeartbeats 8000000 in
theorem tb_Del (W : World) (gT gS : Nat) (l : List TS) (m : Nat) (k : ByteArray) (hk : k.size ≤ 1000) (hi : TI l) (hm : lv l = m) (h : Tb W gT gS l m) :
    Calls Try.prog 19 #[.pointer (some ⟨gT, 0, none⟩), .string k] W fun e w' => e = .returned (.bool (fnd0 l k).2) ∧ ∃ l' m', Tb w' gT gS l' m' ∧ FpW [gT, gS] W w' ∧
      (((fnd0 l k).2 = false ∧ l' = l ∧ m' = m) ∨ ((fnd0 l k).2 = true ∧ l'.length = l.length ∧ TI l' ∧ lv l' + 1 = m ∧ m' + 1 = m ∧ ∀ k' v, hasE l' k' v ↔ k' ≠ k ∧ hasE l k' v)) := by
  have hF := tb_find W gT gS l m k hk h
  have hfw := find_ways hi k
  have hp : (fnd0 l k).1 < l.length := fnd_lt l k _ _ (hm_lt (by have := h.n; omega) k)
  generalize fnd0 l k = R at *
  obtain ⟨g0, f⟩ := R
  simp only at hF hp hfw ⊢
  cases f
  · clear hfw
    go_enter Try.func19, Try.ntmps19
    go_wp2_with fail
    refine hF.mono ?_
    rintro e w1 ⟨rfl, hb1⟩
    have h1 := h.step hb1
    go_wp2
    go_ret
    exact ⟨rfl, l, m, h1, FpW.of hb1, .inl ⟨by first | rfl | trivial, rfl, rfl⟩⟩
  · have hg : (gt l g0).live = true ∧ (gt l g0).k = k := by
      rcases hfw with ⟨_, _, a, b⟩ | ⟨a, _⟩
      · exact ⟨a, b⟩
      · cases a
    obtain ⟨e, he, hde⟩ := lv_dead hi.room
    have hD0 := DI.start hi hp hg.1
    rw [hg.2, hm] at hD0
    have hn2 := hi.n2
    have HDone : Hid (∀ (l1 : List TS) (g a : Nat), DI l.length m (fun k' v => k' ≠ k ∧ hasE l k' v) l1 g a → (gt l1 a).live = false → (l1.set g tz).length = l.length ∧ TI (l1.set g tz) ∧ lv (l1.set g tz) + 1 = m ∧ ∀ k' v, hasE (l1.set g tz) k' v ↔ k' ≠ k ∧ hasE l k' v) := fun l1 g a hd ha => by
      obtain ⟨x1, x2, x3⟩ := hd.done ha
      exact ⟨by rw [List.length_set]; exact hd.len, x1, x2, x3⟩
    have hm1 : 1 ≤ m := by
      have := hD0.cnt
      have hpos : 0 < lv l := List.countP_pos_iff.2 ⟨l[g0], List.getElem_mem hp, by rw [← gt_get hp]; exact hg.1⟩
      omega
    clear hfw hg
    have hN := fun W l1 p (hp : p < l1.length) h => tb_next W gT gS l1 m p hp h
    have hFi := fun W l1 a g (ha : a < l1.length) (hg : g < l1.length) h => tb_fits W gT gS l1 m a g ha hg h
    go_enter Try.func19, Try.ntmps19
    go_wp2_with fail
    refine hF.mono ?_
    rintro e w1 ⟨rfl, hb1⟩
    have h1 := h.step hb1
    go_wp2_with fail
    refine (hN _ l g0 hp h1).mono ?_
    rintro e w2 ⟨rfl, rfl⟩
    have f1 : FpW [gT, gS] W w1 := FpW.of hb1
    clear hF h
    generalize nx l.length g0 = a0 at *
    go_wp2_with fail
    go_loopw [5, 7] (fun gp at_ wr => ∃ (l1 : List TS) (g a : Nat), gp = .int .i64 g ∧ at_ = .int .i64 a ∧ Tb wr gT gS l1 m ∧ Hid (DI l.length m (fun k' v => k' ≠ k ∧ hasE l k' v) l1 g a) ∧ (gt l1 e).live = false ∧ FpW [gT, gS] W wr) (fun _ at_ _ => ds l.length (intOf at_).toNat e)
    case atStart => exact ⟨l, g0, a0, rfl, rfl, h1, hide hD0, hde, f1⟩
    case round =>
      obtain ⟨l1, g, a, rfl, rfl, hT, HD, hd1, fr⟩ := hrel
      clear h1 hD0 hde f1
      have hlen := HD.out.len
      have ha := HD.out.al
      have hg := HD.out.gl
      rw [← hlen] at ha hg
      have haI : (a : Int) < l1.length := by omega
      have hgI : (g : Int) < l1.length := by omega
      have c0 := hT.tab.cell 0
      have c1 := hT.tab.cell 1
      simp at c0 c1
      have hlt := hT.tab.lt
      have hlts := hT.row.lt
      obtain ⟨e0, e1, e2⟩ := hT.at_ ha
      have hne := hT.ne
      cases hl : (gt l1 a).live with
      | false =>
        rw [hl] at e2
        have HX := hide (HDone.out l1 g a HD.out hl)
        obtain ⟨m', rfl⟩ : ∃ m', m = m' + 1 := ⟨m - 1, by omega⟩
        obtain ⟨g0', g1', g2'⟩ := hT.at_ hg
        have fz0 := hT.row.frozen (g * 3)
        have fz1 := hT.row.frozen (g * 3 + 1)
        have fz2 := hT.row.frozen (g * 3 + 2)
        have fzT := hT.tab.frozen 1
        have hf := (hT.slot hg tz (by decide)).many m'
        have f3 : FpW [gT, gS] W ((((wr.setCell ⟨gS, g * 3, none⟩ (.string tz.k)).setCell ⟨gS, g * 3 + 1, none⟩ (.int .i64 tz.v)).setCell ⟨gS, g * 3 + 2, none⟩ (.bool tz.live)).setCell ⟨gT, 1, none⟩ (.int .i64 (m' : Int))) := (((fr.set_ (by simp) _).set_ (by simp) _).set_ (by simp) _).set_ (by simp) _
        have hw := IntWalk.i64_in (m' : Int) (by have := HD.out.cn; have := hT.n; omega)
        clear hN hFi hT HDone hlen
        go_wp2
        go_ret
        exact ⟨rfl, l1.set g tz, m', hf, f3, .inr ⟨by first | rfl | trivial, HX.out.1, HX.out.2.1, HX.out.2.2.1, rfl, HX.out.2.2.2⟩⟩
      | true =>
        rw [hl] at e2
        have hF1 := hFi wr l1 a g ha hg hT
        have hea : a ≠ e := fun c => by rw [c, hd1] at hl; cases hl
        have hel : e < l.length := he
        have hds : ds l.length (nx l1.length a) e < ds l.length a e := by
          have := ds_less (n := l.length) (by omega) he hea
          rw [hlen]; omega
        have hge : e ≠ g := fun c => by have := HD.out.lg; rw [← c, hd1] at this; cases this
        clear hFi
        cases hfit : fit l1 a g with
        | false =>
          simp only [hfit] at hF1
          have HS : Hid (DI l.length m (fun k' v => k' ≠ k ∧ hasE l k' v) l1 g (nx l1.length a)) := by
            have := HD.out.skip hl (by unfold fit at hfit; rw [hlen] at hfit; simpa using hfit)
            rw [hlen]; exact this
          clear hfit HDone hlen
          go_wp2_with fail
          refine hF1.mono ?_
          rintro e5 w5 ⟨rfl, hb5⟩
          have hT5 := hT.step hb5
          clear hF1
          go_wp2_with fail
          refine (hN _ l1 a ha hT5).mono ?_
          rintro e6 w6 ⟨rfl, rfl⟩
          go_wp2
          exact ⟨⟨l1, g, nx l1.length a, rfl, rfl, hT5, HS, hd1, fr.below hb5⟩, by simpa [intOf] using hds⟩
        | true =>
          simp only [hfit] at hF1
          have HS : Hid (DI l.length m (fun k' v => k' ≠ k ∧ hasE l k' v) (l1.set g (gt l1 a)) a (nx l1.length a)) := by
            have := HD.out.move hl (by unfold fit at hfit; rw [hlen] at hfit; simpa using hfit)
            rw [hlen]; exact this
          have hag : a ≠ g := fun c => by have := HD.out.a1; rw [c, ds_self] at this; omega
          have hd2 : (gt (l1.set g (gt l1 a)) e).live = false := by rw [gt_set _ _ _ _ hg, if_neg hge]; exact hd1
          have hxk := hT.ks a
          have HX := hide (show gt l1 a = ⟨(gt l1 a).k, (gt l1 a).v, true⟩ by rw [← hl])
          clear hfit HDone hlen
          go_wp2_with fail
          refine hF1.mono ?_
          rintro e5 w5 ⟨rfl, hb5⟩
          have hT5 := hT.step hb5
          replace fr := fr.below hb5
          clear hF1 e0 e1 e2 c0 c1 hlt hlts hT
          have c0 := hT5.tab.cell 0
          simp at c0
          obtain ⟨e0, e1, e2⟩ := hT5.at_ ha
          rw [hl] at e2
          obtain ⟨g0', g1', g2'⟩ := hT5.at_ hg
          have fz0 := hT5.row.frozen (g * 3)
          have fz1 := hT5.row.frozen (g * 3 + 1)
          have fz2 := hT5.row.frozen (g * 3 + 2)
          have hT6 := hT5.slot hg ⟨(gt l1 a).k, (gt l1 a).v, true⟩ hxk
          rw [← HX.out, hl] at hT6
          generalize (gt l1 a).k = xk at *
          generalize (gt l1 a).v = xv at *
          go_wp2_with fail
          go_region
          go_wp2_with fail
          have hgr : Below wr.heap.size wr wr := Below.refl _ _
          refine (hN _ (l1.set g (gt l1 a)) a (by rw [List.length_set]; exact ha) (hT6.drew)).mono ?_
          rintro e6 w6 ⟨rfl, rfl⟩
          rw [List.length_set]
          go_wp2
          exact ⟨⟨l1.set g (gt l1 a), a, nx l1.length a, rfl, rfl, hT6.drew, HS, hd2, (((fr.set_ (by simp) _).set_ (by simp) _).set_ (by simp) _).drew⟩, by simpa [intOf] using hds⟩
end Go.Proofs.Ytpnhdbejkdoceaa
