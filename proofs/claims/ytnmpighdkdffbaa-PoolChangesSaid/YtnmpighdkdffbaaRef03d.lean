/- Package callboyref03: Take, Give, Set. -/
import Derived.Test.YtnmpighdkdffbaaRef03c
import Derived.Test.YtnmpighdkdffbaaPoolQ
namespace Go.Proofs.Ytnmpighdkdffbaa
open Go.RowKit Go.Sort
set_option linter.unusedSimpArgs false
set_option linter.unusedVariables false

set_option maxRecDepth 100000 in
set_option maxHeartbeats 8000000 in
theorem rTake_any (A B : Option Addr) (c d : Nat) (l : List Cl) (f : List Int) (v : Int) (w : World) (hl : l.length ≤ 1000) (hf : f.length ≤ 1000) (hd : f.length ≤ d) (ha : Rd w w.heap.size A (cls l)) (hb : Rd w w.heap.size B (ints f)) :
    Calls Try.prog 11 #[stV A l.length c B f.length d, .int .i64 v] w fun e w' => ∃ V', e = .returned (.tuple #[V', .int .i64 (pTake l f v).2.1, .int .i64 (pTake l f v).2.2]) ∧ StAt w' V' (pTake l f v).1.1 (pTake l f v).1.2 ∧ Below w.heap.size w w' := by
  obtain ⟨iT, hi, hz0, hz1, hz2⟩ := info_parts pint_info
  have hC := fun (W : World) (h' : Below w.heap.size w W) => rCheck_any A B c d l f W hl hf ((ha.below h').more h'.size) ((hb.below h').more h'.size)
  go_enter Try.func11, Try.ntmps11
  go_wp2_with fail
  generalize hV : World.alloc (World.alloc w _) _ = w1
  have hb1 : Below w.heap.size w w1 := by subst hV; (repeat (first | with_reducible exact Below.refl _ _ | with_reducible assumption | with_reducible refine Below.drew ?_ | with_reducible refine Below.drewN ?_ _ | with_reducible refine Below.alloc1 ?_ _ | with_reducible refine Below.setCell1 ?_ (by first | omega | (simp; done) | (simp; omega)) _ | with_reducible refine Below.step ?_ (by with_reducible assumption)))
  have k0 : Bk w1 w.heap.size 25 (stC A l.length c B f.length d) := by subst hV; (repeat (first | with_reducible exact Bk.new' _ _ _ _ (by simp; done) | with_reducible assumption | with_reducible refine Bk.alloc ?_ _ | with_reducible refine Bk.drew ?_ | with_reducible refine Bk.drewN ?_ _ | with_reducible refine Bk.step ?_ (by with_reducible assumption) | with_reducible refine Bk.far ?_ (by first | omega | (simp; done) | (simp; omega)) _))
  have k1 : Bk w1 (w.heap.size + 1) 25 (stC none 0 0 none 0 0) := by subst hV; (repeat (first | with_reducible exact Bk.new' _ _ _ _ (by simp; done) | with_reducible assumption | with_reducible refine Bk.alloc ?_ _ | with_reducible refine Bk.drew ?_ | with_reducible refine Bk.drewN ?_ _ | with_reducible refine Bk.step ?_ (by with_reducible assumption) | with_reducible refine Bk.far ?_ (by first | omega | (simp; done) | (simp; omega)) _))
  clear hV
  refine (hC _ hb1).mono ?_; rintro e x0 ⟨rfl, hx0⟩
  replace k0 := k0.step hx0
  replace k1 := k1.step hx0
  replace hb1 : Below w.heap.size w x0 := hb1.step hx0
  clear hx0 hC
  have k0_0 := k0.cell 0; have k0_f0 := k0.frozen 0; have k0_1 := k0.cell 1; have k0_f1 := k0.frozen 1; simp only [List.set_cons_zero, List.set_cons_succ, List.getElem?_cons_zero, List.getElem?_cons_succ] at k0_0 k0_1; have lt_k0 := k0.lt; have k1_0 := k1.cell 0; have k1_f0 := k1.frozen 0; have k1_1 := k1.cell 1; have k1_f1 := k1.frozen 1; simp only [List.set_cons_zero, List.set_cons_succ, List.getElem?_cons_zero, List.getElem?_cons_succ] at k1_0 k1_1; have lt_k1 := k1.lt
  by_cases he : pCheck l f = 0
  · have ok := ok_of he
    rw [he]
    by_cases hf0 : f = []
    · subst hf0
      have hr := pTake_full ok v
      clear ok he
      have hn0 : (([] : List Int).length : Int) = 0 := rfl
      go_wp2_with fail
      (try clear k0_0 k0_f0 k0_1 k0_f1 lt_k0) ; (try clear k1_0 k1_f0 k1_1 k1_f1 lt_k1)
      generalize hV : World.setCell (World.setCell x0 _ _) _ _ = w4
      have hb4 : Below w.heap.size w w4 := by subst hV; exact (hb1.setCell (by dsimp only; omega) _).setCell (by dsimp only; omega) _
      replace k1 : Bk w4 (w.heap.size + 1) 25 (stC A l.length c B 0 d) := by subst hV; exact (k1.set_ 0 _).set_ 1 _
      clear hV
      have k1_0 := k1.cell 0; have k1_f0 := k1.frozen 0; have k1_1 := k1.cell 1; have k1_f1 := k1.frozen 1; simp only [List.set_cons_zero, List.set_cons_succ, List.getElem?_cons_zero, List.getElem?_cons_succ] at k1_0 k1_1; have lt_k1 := k1.lt
      exact bodyPost_ret (v := .tuple #[stV A l.length c B 0 d, .int .i64 0, .int .i64 7]) (by simp only [results, Try.results11]; go_simp) rfl ⟨_, by rw [hr], by rw [hr]; exact ⟨A, c, B, d, rfl, hd, (ha.below hb4).more hb4.size, (hb.below hb4).more hb4.size⟩, hb4⟩
    · obtain ⟨f0, q, rfl⟩ := last_of' ok hf0
      obtain ⟨hq, _, hg1, hg0, ok1, hr⟩ := ok.take v
      have hlen : (f0 ++ [(q : Int)]).length = f0.length + 1 := by simp
      clear ok ok1 he hf0
      have hrb := hb
      rw [hlen] at hd hf
      obtain ⟨bd, rfl, hbdb, q1⟩ := (hb.below hb1).at_ (k := f0.length) (by simp)
      have q2 : (ints (f0 ++ [(q : Int)]))[f0.length]'(by simp) = .int .i64 q := by simp [ints]
      rw [q2] at q1
      obtain ⟨ad, rfl, hadb, c1, c2, c3⟩ := (ha.below hb1).cl hq
      have hn1 : ((f0 ++ [(q : Int)]).length : Int) = (f0.length : Int) + 1 := by omega
      have hn2 : ((f0.length : Int) + 1 == 0) = false := by rw [beq_eq_false_iff_ne]; omega
      rw [show l[q].gen * 64 + (q : Int) = 64 * l[q].gen + q by omega] at hr
      have HR := hide hr
      have hrf : Rd x0 w.heap.size (some bd) (ints f0) := by
        have h1 := (hb.below hb1).take f0.length
        rwa [show (ints (f0 ++ [(q : Int)])).take f0.length = ints f0 by simp [ints]] at h1
      clear hr q2
      rw [hlen] at *
      generalize l[q] = x at *
      generalize x.gen = g at *
      have hv1 := k1.lt
      go_wp2_with (at_builtin; (refine wpList_append_own _ rfl (.tmp 38) (.tmp 43) 23 rfl x0.heap.size 3 iT _ 1 8 Try.underlying23 hi hz0 hz1 hz2 rfl (by omega) (.slice none 0 0) 0 [] rfl own_none bd f0.length d (ints f0) rfl (by simp) (rd_hnews hrf) (fun u hu => by obtain ⟨x, _, rfl⟩ := List.mem_map.1 hu; rfl) (by unfold maxLen; omega) (by omega) (by omega) ?_); intro v' w2 h2 h3 h4; simp only [Nat.zero_add, List.nil_append] at h2; obtain ⟨B2, d2, rfl⟩ := own_form h2; (have hy : Below x0.heap.size x0 w2 := (Below.refl x0.heap.size _).grown h3 (by omega) (fun k hk => by cases hk)); (have m0 := k0.step hy); have m0_0 := m0.cell 0; have m0_f0 := m0.frozen 0; have m0_1 := m0.cell 1; have m0_f1 := m0.frozen 1; simp only [List.set_cons_zero, List.set_cons_succ, List.getElem?_cons_zero, List.getElem?_cons_succ] at m0_0 m0_1; have lm0 := m0.lt)
      (try clear k0_0 k0_f0 k0_1 k0_f1 lt_k0) ; (try clear k1_0 k1_f0 k1_1 k1_f1 lt_k1) ; (try clear m0_0 m0_f0 m0_1 m0_f1 lt_m0)
      have hsz := hy.size
      generalize hV : World.setCell w2 _ _ = w3
      have hb3 : Below w.heap.size w w3 := by subst hV; exact (hb1.then_ hy hb1.size).setCell (by dsimp only; omega) _
      replace k1 : Bk w3 (w.heap.size + 1) 25 (stC none 0 0 none 0 0) := by subst hV; exact (k1.step hy).far (by dsimp only; omega) _
      replace h2 : w3.ownsRow x0.heap.size 3 1 (.slice B2 f0.length d2) f0.length (ints f0) := by subst hV; exact own_far h2 (by dsimp only; omega) _
      have hxsz := hb1.size
      have lk1 : w.heap.size + 1 < w3.heap.size := k1.lt
      have hx0w3 : x0.heap.size ≤ w3.heap.size := by subst hV; simpa [World.setCell] using hsz
      have lt1 := hv1
      clear hV hy h3 h4 k0 m0 c1 c2 c3 q1
      refine (rwith_any (some ad) B2 c d2 l f0.length q ⟨g, true, v⟩ w3 hl hq ((ha.below hb3).more hb3.size)).mono ?_; rintro e x4 ⟨A', c', rfl, r1, hfr, hx4⟩
      have hb4 : Below w.heap.size w x4 := hb3.step hx4
      replace k1 := k1.step hx4
      replace h2 := own_below h2 hx4 (Nat.le_refl _)
      clear hx4 hb3
      have k1_0 := k1.cell 0; have k1_f0 := k1.frozen 0; have k1_1 := k1.cell 1; have k1_f1 := k1.frozen 1; simp only [List.set_cons_zero, List.set_cons_succ, List.getElem?_cons_zero, List.getElem?_cons_succ] at k1_0 k1_1; have lt_k1 := k1.lt
      go_wp2_with fail
      (try clear k1_0 k1_f0 k1_1 k1_f1 lt_k1)
      generalize hV : World.setCell (World.setCell x4 _ _) _ _ = w5
      have hb5 : Below w.heap.size w w5 := by subst hV; exact (hb4.setCell (by dsimp only; omega) _).setCell (by dsimp only; omega) _
      replace k1 : Bk w5 (w.heap.size + 1) 25 (stC A' l.length c' B2 f0.length d2) := by subst hV; exact (k1.set_ 0 _).set_ 1 _
      replace r1 : Rd w5 w5.heap.size A' (cls (l.set q ⟨g, true, v⟩)) := by subst hV; exact (r1.set1 (p := ⟨w.heap.size + 1, 0, none⟩) hfr lk1 _).set1 (p := ⟨w.heap.size + 1, 1, none⟩) hfr lk1 _
      replace h2 : w5.ownsRow x0.heap.size 3 1 (.slice B2 f0.length d2) f0.length (ints f0) := by subst hV; refine own_far (own_far h2 ?_ _) ?_ _ <;> (dsimp only; omega)
      clear hV
      have k1_0 := k1.cell 0; have k1_f0 := k1.frozen 0; have k1_1 := k1.cell 1; have k1_f1 := k1.frozen 1; simp only [List.set_cons_zero, List.set_cons_succ, List.getElem?_cons_zero, List.getElem?_cons_succ] at k1_0 k1_1; have lt_k1 := k1.lt
      have hr := HR.out
      have hcap7 : f0.length ≤ d2 := by
        rcases h2.2 with ⟨e, h0⟩ | ⟨g, cap, cur, e, _, _, h0, _⟩
        · omega
        · injection e with _ _ e; omega
      exact bodyPost_ret (v := .tuple #[stV A' l.length c' B2 f0.length d2, .int .i64 (64 * g + q), .int .i64 0]) (by simp only [results, Try.results11]; go_simp) rfl ⟨_, by rw [hr], by rw [hr]; exact ⟨A', c', B2, d2, by rw [List.length_set], hcap7, r1, own_rd h2⟩, hb5⟩
  · have hr : pTake l f v = ((l, f), 0, pCheck l f) := by unfold pTake; rw [if_pos he]
    have hne : (pCheck l f != 0) = true := by simpa using he
    generalize pCheck l f = ec at *
    clear he
    go_wp2_with fail
    (try clear k0_0 k0_f0 k0_1 k0_f1 lt_k0) ; (try clear k1_0 k1_f0 k1_1 k1_f1 lt_k1)
    generalize hV : World.setCell (World.setCell x0 _ _) _ _ = w4
    have hb4 : Below w.heap.size w w4 := by subst hV; exact (hb1.setCell (by dsimp only; omega) _).setCell (by dsimp only; omega) _
    replace k1 : Bk w4 (w.heap.size + 1) 25 (stC A l.length c B f.length d) := by subst hV; exact (k1.set_ 0 _).set_ 1 _
    clear hV
    have k1_0 := k1.cell 0; have k1_f0 := k1.frozen 0; have k1_1 := k1.cell 1; have k1_f1 := k1.frozen 1; simp only [List.set_cons_zero, List.set_cons_succ, List.getElem?_cons_zero, List.getElem?_cons_succ] at k1_0 k1_1; have lt_k1 := k1.lt
    exact bodyPost_ret (v := .tuple #[stV A l.length c B f.length d, .int .i64 0, .int .i64 ec]) (by simp only [results, Try.results11]; go_simp) rfl ⟨_, by rw [hr], by rw [hr]; exact ⟨A, c, B, d, rfl, hd, (ha.below hb4).more hb4.size, (hb.below hb4).more hb4.size⟩, hb4⟩
end Go.Proofs.Ytnmpighdkdffbaa
