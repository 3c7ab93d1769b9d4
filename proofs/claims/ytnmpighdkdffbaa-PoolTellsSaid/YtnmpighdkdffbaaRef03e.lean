/- Package callboyref03: Give, Set. -/
import Derived.Test.YtnmpighdkdffbaaRef03d
namespace Go.Proofs.Ytnmpighdkdffbaa
open Go.RowKit Go.Sort
set_option linter.unusedSimpArgs false
set_option linter.unusedVariables false

theorem change_no {D : List Cl → List Int → Nat → List Cl × List Int} {l : List Cl} {f : List Int} {h : Int} (he : pCheck l f = 0) (hf : (pFind l h).2 = false) : pChange D l f h = ((l, f), 6) := by
  unfold pChange; rw [if_neg (by simpa using he), if_pos hf]
theorem change_yes {D : List Cl → List Int → Nat → List Cl × List Int} {l : List Cl} {f : List Int} {h : Int} {q : Nat} (he : pCheck l f = 0) (hf : (pFind l h).2 = true) (hq : (pFind l h).1 = q) : pChange D l f h = (D l f q, 0) := by
  unfold pChange; rw [if_neg (by simpa using he), if_neg (by rw [hf]; simp), hq, Int.toNat_natCast]
theorem change_odd {D : List Cl → List Int → Nat → List Cl × List Int} {l : List Cl} {f : List Int} {h : Int} (he : pCheck l f ≠ 0) : pChange D l f h = ((l, f), pCheck l f) := by unfold pChange; rw [if_pos he]

set_option maxRecDepth 100000 in
set_option maxHeartbeats 8000000 in
theorem rGive_any (A B : Option Addr) (c d : Nat) (l : List Cl) (f : List Int) (h : Int) (w : World) (hl : l.length ≤ 1000) (hf : f.length ≤ 1000) (hd : f.length ≤ d) (ha : Rd w w.heap.size A (cls l)) (hb : Rd w w.heap.size B (ints f)) :
    Calls Try.prog 13 #[stV A l.length c B f.length d, .int .i64 h] w fun e w' => ∃ V', e = .returned (.tuple #[V', .int .i64 (pChange giveD l f h).2]) ∧ StAt w' V' (pChange giveD l f h).1.1 (pChange giveD l f h).1.2 ∧ Below w.heap.size w w' := by
  obtain ⟨iT, hi, hz0, hz1, hz2⟩ := info_parts pint_info
  have hC := fun (W : World) (h' : Below w.heap.size w W) => rCheck_any A B c d l f W hl hf ((ha.below h').more h'.size) ((hb.below h').more h'.size)
  have hP0 := fun (W : World) (h' : Below w.heap.size w W) => rplace_some A B c d l f.length h W hl ((ha.below h').more h'.size)
  go_enter Try.func13, Try.ntmps13
  go_wp2_with fail
  generalize hV : World.alloc (World.alloc w _) _ = w1
  have hb1 : Below w.heap.size w w1 := by subst hV; (repeat (first | with_reducible exact Below.refl _ _ | with_reducible assumption | with_reducible refine Below.drew ?_ | with_reducible refine Below.drewN ?_ _ | with_reducible refine Below.alloc1 ?_ _ | with_reducible refine Below.setCell1 ?_ (by first | omega | (simp; done) | (simp; omega)) _ | with_reducible refine Below.step ?_ (by with_reducible assumption)))
  have k0 : Bk w1 w.heap.size 25 (stC A l.length c B f.length d) := by subst hV; (repeat (first | with_reducible exact Bk.new' _ _ _ _ (by simp; done) | with_reducible assumption | with_reducible refine Bk.alloc ?_ _ | with_reducible refine Bk.drew ?_ | with_reducible refine Bk.drewN ?_ _ | with_reducible refine Bk.step ?_ (by with_reducible assumption) | with_reducible refine Bk.far ?_ (by first | omega | (simp; done) | (simp; omega)) _))
  have k1 : Bk w1 (w.heap.size + 1) 25 (stC none 0 0 none 0 0) := by subst hV; (repeat (first | with_reducible exact Bk.new' _ _ _ _ (by simp; done) | with_reducible assumption | with_reducible refine Bk.alloc ?_ _ | with_reducible refine Bk.drew ?_ | with_reducible refine Bk.drewN ?_ _ | with_reducible refine Bk.step ?_ (by with_reducible assumption) | with_reducible refine Bk.far ?_ (by first | omega | (simp; done) | (simp; omega)) _))
  clear hV
  refine (hC _ hb1).mono ?_; rintro e x0 ⟨rfl, hx0⟩
  replace k0 := k0.step hx0
  replace k1 := k1.step hx0
  replace hb1 : Below w.heap.size w x0 := hb1.step hx0
  clear hx0 hC
  have k0_0 := k0.cell 0; have k0_f0 := k0.frozen 0; have k0_1 := k0.cell 1; have k0_f1 := k0.frozen 1; simp only [List.set_cons_zero, List.set_cons_succ, List.getElem?_cons_zero, List.getElem?_cons_succ] at k0_0 k0_1; have lt_k0 := k0.lt; have k1_0 := k1.cell 0; have k1_f0 := k1.frozen 0; have k1_1 := k1.cell 1; have k1_f1 := k1.frozen 1; simp only [List.set_cons_zero, List.set_cons_succ, List.getElem?_cons_zero, List.getElem?_cons_succ] at k1_0 k1_1; have lt_k1 := k1.lt
  go_wp2_with fail
  by_cases he : pCheck l f = 0
  · have ok := ok_of he
    refine (rplace_any A B c d l f.length h x0 ok.n.2 ok.gen ((ha.below hb1).more hb1.size)).mono ?_; rintro e x2 ⟨rfl, hx2⟩
    replace k0 := k0.step hx2; (try clear k0_0 k0_f0 k0_1 k0_f1); have k0_0 := k0.cell 0; have k0_f0 := k0.frozen 0; have k0_1 := k0.cell 1; have k0_f1 := k0.frozen 1; simp only [List.set_cons_zero, List.set_cons_succ, List.getElem?_cons_zero, List.getElem?_cons_succ] at k0_0 k0_1; (try clear lt_k0); have lt_k0 := k0.lt; replace k1 := k1.step hx2; (try clear k1_0 k1_f0 k1_1 k1_f1); have k1_0 := k1.cell 0; have k1_f0 := k1.frozen 0; have k1_1 := k1.cell 1; have k1_f1 := k1.frozen 1; simp only [List.set_cons_zero, List.set_cons_succ, List.getElem?_cons_zero, List.getElem?_cons_succ] at k1_0 k1_1; (try clear lt_k1); have lt_k1 := k1.lt
    replace hb1 : Below w.heap.size w x2 := hb1.step hx2
    clear hx2 hP0
    rcases rPlace_cases l h with ⟨hf0, e1⟩ | ⟨hf1, q, hq, e1, e2, e3⟩
    · have hr := change_no (D := giveD) he hf0
      rw [e1]
      rw [he]
      clear ok e1 hf0 he
      go_wp2_with fail
      (try clear k0_0 k0_f0 k0_1 k0_f1 lt_k0) ; (try clear k1_0 k1_f0 k1_1 k1_f1 lt_k1)
      generalize hV : World.setCell (World.setCell x2 _ _) _ _ = w4
      have hb4 : Below w.heap.size w w4 := by subst hV; exact (hb1.setCell (by dsimp only; omega) _).setCell (by dsimp only; omega) _
      replace k1 : Bk w4 (w.heap.size + 1) 25 (stC A l.length c B f.length d) := by subst hV; exact (k1.set_ 0 _).set_ 1 _
      clear hV
      have k1_0 := k1.cell 0; have k1_f0 := k1.frozen 0; have k1_1 := k1.cell 1; have k1_f1 := k1.frozen 1; simp only [List.set_cons_zero, List.set_cons_succ, List.getElem?_cons_zero, List.getElem?_cons_succ] at k1_0 k1_1; have lt_k1 := k1.lt
      exact bodyPost_ret (v := .tuple #[stV A l.length c B f.length d, .int .i64 6]) (by simp only [results, Try.results13]; go_simp) rfl ⟨_, by rw [hr], by rw [hr]; exact ⟨A, c, B, d, rfl, hd, (ha.below hb4).more hb4.size, (hb.below hb4).more hb4.size⟩, hb4⟩
    · have hr := change_yes (D := giveD) he hf1 e2
      have hgq := ok.gen _ (List.getElem_mem hq)
      have hbk : backX l q = ⟨l[q].gen + 1, false, 0⟩ := by unfold backX; rw [getD_at _ _ hq]
      have hgd : giveD l f q = (l.set q ⟨l[q].gen + 1, false, 0⟩, if pSpare ⟨l[q].gen + 1, false, 0⟩ = true then f ++ [(q : Int)] else f) := by unfold giveD; rw [hbk]
      rw [hgd] at hr
      rw [e1]
      rw [he]
      obtain ⟨ad, rfl, hadb, c1, c2, c3⟩ := (ha.below hb1).cl hq
      clear ok e1 e2 e3 hf1 he hbk hgd
      have HR := hide hr
      clear hr
      generalize l[q] = x at *
      generalize x.gen = g at *
      have q0 : ¬ (q : Int) < 0 := by omega
      by_cases hg : g + 1 < 1048576
      · have hr := HR.out
        rw [if_pos (by simp [pSpare]; omega)] at hr
        replace HR := hide hr
        clear hr
        have d1 : decide (g + 1 < 1048576) = true := by simp; omega
        have hlen9 : (f ++ [(q : Int)]).length = f.length + 1 := by simp
        have hin9 : ints (f ++ [(q : Int)]) = ints f ++ [.int .i64 q] := by simp [ints]
        cases B with
        | none =>
          have hf0 : f = [] := by
            rcases f with _ | ⟨a, f⟩
            · rfl
            · obtain ⟨ad, h9, _⟩ := hb (by simp); cases h9
          subst hf0
          go_wp2_with (at_builtin; refine wpList_append_own _ rfl (.tmp 36) (.tmp 38) 23 rfl x2.heap.size 3 iT _ 1 8 Try.underlying23 hi hz0 hz1 hz2 rfl (by omega) (.slice none 0 0) 0 [] rfl own_none ⟨x2.heap.size, 0, none⟩ 1 1 [.int .i64 q] rfl rfl (news_at (cs := [_])) (by simp [Value.oneCell']) (by unfold maxLen; omega) (by omega) (by simp) ?_; intro v3 w3 h5 h6 h7; obtain ⟨B3, d3, rfl⟩ := own_form h5; (have hy3 : Below x2.heap.size x2 w3 := ((Below.refl x2.heap.size x2).alloc (by omega) (.cells #[.int .i64 q] 3)).trans ((Below.refl x2.heap.size _).grown h6 (by simp) (fun k hk => by cases hk))); (have m0 := k0.step hy3); have m0_0 := m0.cell 0; have m0_f0 := m0.frozen 0; have m0_1 := m0.cell 1; have m0_f1 := m0.frozen 1; simp only [List.set_cons_zero, List.set_cons_succ, List.getElem?_cons_zero, List.getElem?_cons_succ] at m0_0 m0_1; have lm0 := m0.lt)
          (try clear k0_0 k0_f0 k0_1 k0_f1 lt_k0) ; (try clear k1_0 k1_f0 k1_1 k1_f1 lt_k1) ; (try clear m0_0 m0_f0 m0_1 m0_f1 lt_m0)
          have hszy := hy3.size
          have lx1 := k1.lt
          generalize hV : World.setCell w3 _ _ = w4
          have hb4 : Below w.heap.size w w4 := by subst hV; exact (hb1.then_ hy3 hb1.size).setCell (by dsimp only; omega) _
          replace k1 : Bk w4 (w.heap.size + 1) 25 (stC none 0 0 none 0 0) := by subst hV; exact (k1.step hy3).far (by dsimp only; omega) _
          have o5 : w4.ownsRow x2.heap.size 3 1 (.slice B3 (1) d3) (1) (ints ([] ++ [(q : Int)])) := by
            subst hV
            rw [show ints ([] ++ [(q : Int)]) = [] ++ [.int .i64 (q : Int)] by simp [ints]]
            exact own_far h5 (by dsimp only; omega) _
          have lk1 : w.heap.size + 1 < w4.heap.size := k1.lt
          clear hV hy3 h5 h6 h7 k0 m0 c1 c2 c3
          refine (rwith_any (some ad) B3 c d3 l (1) q ⟨g + 1, false, 0⟩ w4 hl hq ((ha.below hb4).more hb4.size)).mono ?_; rintro e x4 ⟨A', c', rfl, r1, hfr, hx4⟩
          have hb5 : Below w.heap.size w x4 := hb4.step hx4
          replace k1 := k1.step hx4
          replace o5 := own_below o5 hx4 (Nat.le_refl _)
          clear hx4 hb4
          have k1_0 := k1.cell 0; have k1_f0 := k1.frozen 0; have k1_1 := k1.cell 1; have k1_f1 := k1.frozen 1; simp only [List.set_cons_zero, List.set_cons_succ, List.getElem?_cons_zero, List.getElem?_cons_succ] at k1_0 k1_1; have lt_k1 := k1.lt
          go_wp2_with fail
          (try clear k1_0 k1_f0 k1_1 k1_f1 lt_k1)
          generalize hV : World.setCell (World.setCell x4 _ _) _ _ = w5
          have hb6 : Below w.heap.size w w5 := by subst hV; exact (hb5.setCell (by dsimp only; omega) _).setCell (by dsimp only; omega) _
          replace k1 : Bk w5 (w.heap.size + 1) 25 (stC A' l.length c' B3 (1) d3) := by subst hV; exact (k1.set_ 0 _).set_ 1 _
          replace r1 : Rd w5 w5.heap.size A' (cls (l.set q ⟨g + 1, false, 0⟩)) := by subst hV; exact (r1.set1 (p := ⟨w.heap.size + 1, 0, none⟩) hfr lk1 _).set1 (p := ⟨w.heap.size + 1, 1, none⟩) hfr lk1 _
          replace o5 : w5.ownsRow x2.heap.size 3 1 (.slice B3 (1) d3) (1) (ints ([] ++ [(q : Int)])) := by subst hV; refine own_far (own_far o5 ?_ _) ?_ _ <;> (dsimp only; omega)
          clear hV
          have k1_0 := k1.cell 0; have k1_f0 := k1.frozen 0; have k1_1 := k1.cell 1; have k1_f1 := k1.frozen 1; simp only [List.set_cons_zero, List.set_cons_succ, List.getElem?_cons_zero, List.getElem?_cons_succ] at k1_0 k1_1; have lt_k1 := k1.lt
          have hr := HR.out
          have hcap7 : 1 ≤ d3 := by
            rcases o5.2 with ⟨e, h0⟩ | ⟨g, cap, cur, e, _, _, h0, _⟩
            · omega
            · injection e with _ _ e; omega
          exact bodyPost_ret (v := .tuple #[stV A' l.length c' B3 (1) d3, .int .i64 0]) (by simp only [results, Try.results13]; go_simp) rfl ⟨_, by rw [hr], by rw [hr]; exact ⟨A', c', B3, d3, by rw [List.length_set]; simp, by simpa using hcap7, r1, own_rd o5⟩, hb6⟩
        | some bd =>
          have hb2 := hb.below hb1
          go_wp2_with (at_builtin; first | ((refine wpList_append_own _ rfl (.tmp 33) (.tmp 35) 23 rfl x2.heap.size 3 iT _ 1 8 Try.underlying23 hi hz0 hz1 hz2 rfl (by omega) (.slice none 0 0) 0 [] rfl own_none bd f.length d (ints f) rfl (by simp) (rd_hnews hb2) (fun u hu => by obtain ⟨x, _, rfl⟩ := List.mem_map.1 hu; rfl) (by unfold maxLen; omega) (by omega) (by omega) ?_); intro v' w2 h2 h3 h4; simp only [Nat.zero_add, List.nil_append] at h2; obtain ⟨B2, d2, rfl⟩ := own_form h2; (have hy : Below x2.heap.size x2 w2 := (Below.refl x2.heap.size _).grown h3 (by omega) (fun k hk => by cases hk)); have hsy := hy.size) | ((refine wpList_append_own _ rfl (.tmp 36) (.tmp 38) 23 rfl x2.heap.size 3 iT _ 1 8 Try.underlying23 hi hz0 hz1 hz2 rfl (by omega) (.slice B2 f.length d2) f.length (ints f) rfl (h2.alloc _) ⟨w2.heap.size, 0, none⟩ 1 1 [.int .i64 q] rfl rfl (news_at (cs := [_])) (by simp [Value.oneCell']) (by unfold maxLen; omega) (by omega) (by simp; omega) ?_); intro v3 w3 h5 h6 h7; obtain ⟨B3, d3, rfl⟩ := own_form h5; (have hy3 : Below x2.heap.size x2 w3 := (hy.alloc (by omega) _).trans ((Below.refl x2.heap.size _).grown h6 (by simp; omega) (fun k hk => (h2.lt k hk).1))); (have m0 := k0.step hy3); have m0_0 := m0.cell 0; have m0_f0 := m0.frozen 0; have m0_1 := m0.cell 1; have m0_f1 := m0.frozen 1; simp only [List.set_cons_zero, List.set_cons_succ, List.getElem?_cons_zero, List.getElem?_cons_succ] at m0_0 m0_1; have lm0 := m0.lt))
          (try clear k0_0 k0_f0 k0_1 k0_f1 lt_k0) ; (try clear k1_0 k1_f0 k1_1 k1_f1 lt_k1) ; (try clear m0_0 m0_f0 m0_1 m0_f1 lt_m0)
          have hszy := hy3.size
          have lx1 := k1.lt
          generalize hV : World.setCell w3 _ _ = w4
          have hb4 : Below w.heap.size w w4 := by subst hV; exact (hb1.then_ hy3 hb1.size).setCell (by dsimp only; omega) _
          replace k1 : Bk w4 (w.heap.size + 1) 25 (stC none 0 0 none 0 0) := by subst hV; exact (k1.step hy3).far (by dsimp only; omega) _
          have o5 : w4.ownsRow x2.heap.size 3 1 (.slice B3 (f.length + 1) d3) (f.length + 1) (ints (f ++ [(q : Int)])) := by
            subst hV
            rw [show ints (f ++ [(q : Int)]) = ints f ++ [.int .i64 (q : Int)] by simp [ints]]
            exact own_far h5 (by dsimp only; omega) _
          have lk1 : w.heap.size + 1 < w4.heap.size := k1.lt
          clear hV hy3 h5 h6 h7 h2 h3 h4 hy hsy k0 m0 c1 c2 c3
          refine (rwith_any (some ad) B3 c d3 l (f.length + 1) q ⟨g + 1, false, 0⟩ w4 hl hq ((ha.below hb4).more hb4.size)).mono ?_; rintro e x4 ⟨A', c', rfl, r1, hfr, hx4⟩
          have hb5 : Below w.heap.size w x4 := hb4.step hx4
          replace k1 := k1.step hx4
          replace o5 := own_below o5 hx4 (Nat.le_refl _)
          clear hx4 hb4
          have k1_0 := k1.cell 0; have k1_f0 := k1.frozen 0; have k1_1 := k1.cell 1; have k1_f1 := k1.frozen 1; simp only [List.set_cons_zero, List.set_cons_succ, List.getElem?_cons_zero, List.getElem?_cons_succ] at k1_0 k1_1; have lt_k1 := k1.lt
          go_wp2_with fail
          (try clear k1_0 k1_f0 k1_1 k1_f1 lt_k1)
          generalize hV : World.setCell (World.setCell x4 _ _) _ _ = w5
          have hb6 : Below w.heap.size w w5 := by subst hV; exact (hb5.setCell (by dsimp only; omega) _).setCell (by dsimp only; omega) _
          replace k1 : Bk w5 (w.heap.size + 1) 25 (stC A' l.length c' B3 (f.length + 1) d3) := by subst hV; exact (k1.set_ 0 _).set_ 1 _
          replace r1 : Rd w5 w5.heap.size A' (cls (l.set q ⟨g + 1, false, 0⟩)) := by subst hV; exact (r1.set1 (p := ⟨w.heap.size + 1, 0, none⟩) hfr lk1 _).set1 (p := ⟨w.heap.size + 1, 1, none⟩) hfr lk1 _
          replace o5 : w5.ownsRow x2.heap.size 3 1 (.slice B3 (f.length + 1) d3) (f.length + 1) (ints (f ++ [(q : Int)])) := by subst hV; refine own_far (own_far o5 ?_ _) ?_ _ <;> (dsimp only; omega)
          clear hV
          have k1_0 := k1.cell 0; have k1_f0 := k1.frozen 0; have k1_1 := k1.cell 1; have k1_f1 := k1.frozen 1; simp only [List.set_cons_zero, List.set_cons_succ, List.getElem?_cons_zero, List.getElem?_cons_succ] at k1_0 k1_1; have lt_k1 := k1.lt
          have hr := HR.out
          have hcap7 : f.length + 1 ≤ d3 := by
            rcases o5.2 with ⟨e, h0⟩ | ⟨g, cap, cur, e, _, _, h0, _⟩
            · omega
            · injection e with _ _ e; omega
          exact bodyPost_ret (v := .tuple #[stV A' l.length c' B3 (f.length + 1) d3, .int .i64 0]) (by simp only [results, Try.results13]; go_simp) rfl ⟨_, by rw [hr], by rw [hr]; exact ⟨A', c', B3, d3, by rw [List.length_set]; simp, by simpa using hcap7, r1, own_rd o5⟩, hb6⟩
      · have hr := HR.out
        rw [if_neg (by simp [pSpare]; omega)] at hr
        replace HR := hide hr
        clear hr
        have d1 : decide (g + 1 < 1048576) = false := by simp; omega
        go_wp2_with fail
        refine (rwith_any (some ad) B c d l f.length q ⟨g + 1, false, 0⟩ x2 hl hq ((ha.below hb1).more hb1.size)).mono ?_; rintro e x4 ⟨A', c', rfl, r1, hfr, hx4⟩
        have lk1 := k1.lt
        have hb4 : Below w.heap.size w x4 := hb1.step hx4
        replace k1 := k1.step hx4; (try clear k1_0 k1_f0 k1_1 k1_f1); have k1_0 := k1.cell 0; have k1_f0 := k1.frozen 0; have k1_1 := k1.cell 1; have k1_f1 := k1.frozen 1; simp only [List.set_cons_zero, List.set_cons_succ, List.getElem?_cons_zero, List.getElem?_cons_succ] at k1_0 k1_1; (try clear lt_k1); have lt_k1 := k1.lt
        clear hx4
        (try clear k0_0 k0_f0 k0_1 k0_f1 lt_k0)
        go_wp2_with fail
        (try clear k1_0 k1_f0 k1_1 k1_f1 lt_k1)
        generalize hV : World.setCell (World.setCell x4 _ _) _ _ = w5
        have hb5 : Below w.heap.size w w5 := by subst hV; exact (hb4.setCell (by dsimp only; omega) _).setCell (by dsimp only; omega) _
        replace k1 : Bk w5 (w.heap.size + 1) 25 (stC A' l.length c' B f.length d) := by subst hV; exact (k1.set_ 0 _).set_ 1 _
        replace r1 : Rd w5 w5.heap.size A' (cls (l.set q ⟨g + 1, false, 0⟩)) := by subst hV; exact (r1.set1 (p := ⟨w.heap.size + 1, 0, none⟩) hfr lk1 _).set1 (p := ⟨w.heap.size + 1, 1, none⟩) hfr lk1 _
        clear hV
        have k1_0 := k1.cell 0; have k1_f0 := k1.frozen 0; have k1_1 := k1.cell 1; have k1_f1 := k1.frozen 1; simp only [List.set_cons_zero, List.set_cons_succ, List.getElem?_cons_zero, List.getElem?_cons_succ] at k1_0 k1_1; have lt_k1 := k1.lt
        have hr := HR.out
        exact bodyPost_ret (v := .tuple #[stV A' l.length c' B f.length d, .int .i64 0]) (by simp only [results, Try.results13]; go_simp) rfl ⟨_, by rw [hr], by rw [hr]; exact ⟨A', c', B, d, by rw [List.length_set], hd, r1, (hb.below hb5).more hb5.size⟩, hb5⟩
  · have hr := change_odd (D := giveD) (h := h) he
    have hne : (pCheck l f != 0) = true := by simpa using he
    generalize pCheck l f = ec at *
    clear he
    refine (hP0 _ hb1).mono ?_; rintro e x2 ⟨⟨r, rfl⟩, hx2⟩
    replace k0 := k0.step hx2; (try clear k0_0 k0_f0 k0_1 k0_f1); have k0_0 := k0.cell 0; have k0_f0 := k0.frozen 0; have k0_1 := k0.cell 1; have k0_f1 := k0.frozen 1; simp only [List.set_cons_zero, List.set_cons_succ, List.getElem?_cons_zero, List.getElem?_cons_succ] at k0_0 k0_1; (try clear lt_k0); have lt_k0 := k0.lt; replace k1 := k1.step hx2; (try clear k1_0 k1_f0 k1_1 k1_f1); have k1_0 := k1.cell 0; have k1_f0 := k1.frozen 0; have k1_1 := k1.cell 1; have k1_f1 := k1.frozen 1; simp only [List.set_cons_zero, List.set_cons_succ, List.getElem?_cons_zero, List.getElem?_cons_succ] at k1_0 k1_1; (try clear lt_k1); have lt_k1 := k1.lt
    replace hb1 : Below w.heap.size w x2 := hb1.step hx2
    clear hx2 hP0
    go_wp2_with fail
    (try clear k0_0 k0_f0 k0_1 k0_f1 lt_k0) ; (try clear k1_0 k1_f0 k1_1 k1_f1 lt_k1)
    generalize hV : World.setCell (World.setCell x2 _ _) _ _ = w4
    have hb4 : Below w.heap.size w w4 := by subst hV; exact (hb1.setCell (by dsimp only; omega) _).setCell (by dsimp only; omega) _
    replace k1 : Bk w4 (w.heap.size + 1) 25 (stC A l.length c B f.length d) := by subst hV; exact (k1.set_ 0 _).set_ 1 _
    clear hV
    have k1_0 := k1.cell 0; have k1_f0 := k1.frozen 0; have k1_1 := k1.cell 1; have k1_f1 := k1.frozen 1; simp only [List.set_cons_zero, List.set_cons_succ, List.getElem?_cons_zero, List.getElem?_cons_succ] at k1_0 k1_1; have lt_k1 := k1.lt
    exact bodyPost_ret (v := .tuple #[stV A l.length c B f.length d, .int .i64 ec]) (by simp only [results, Try.results13]; go_simp) rfl ⟨_, by rw [hr], by rw [hr]; exact ⟨A, c, B, d, rfl, hd, (ha.below hb4).more hb4.size, (hb.below hb4).more hb4.size⟩, hb4⟩
end Go.Proofs.Ytnmpighdkdffbaa
