/- Package callboyref03: with, Take, Give, Set, Get. -/
import Derived.Test.YtnmpighdkdffbaaRef03b
import Derived.Deep.DeepCutAuto
namespace Go.Proofs.Ytnmpighdkdffbaa
open Go.RowKit Go.Sort
set_option linter.unusedSimpArgs false
set_option linter.unusedVariables false

theorem rcell_info : (Try.prog.info? 64).map (fun i => (i.zero, i.size, i.bytes)) = some (some (clV ⟨0, false, 0⟩), 3, 24) := by kernel_rfl
theorem own_none {w : World} {base : Nat} {e : TypeId} {size : Nat} : w.ownsRow base e size (.slice none 0 0) 0 [] := ⟨by simp, .inl ⟨rfl, rfl⟩⟩
theorem rd_hnews {w : World} {B : Nat} {ad : Addr} {xs : List Value} (h : Rd w B (some ad) xs) : ∀ j u, xs[j]? = some u → w.cell? (ad.add j) = some u := by
  intro j u hu
  obtain ⟨ad', e, _, hc⟩ := h (by rintro h0; rw [h0] at hu; simp at hu)
  injection e with e; subst e
  exact hc j u hu
theorem row_cells' {w : World} {g : Nat} {t : TypeId} {l : List Cl} {pad : List Value} (kr : Bk w g t (cls l ++ pad)) {q : Nat} (hql : q < l.length) : w.cell? ⟨g, q * 3, none⟩ = some (.int .i64 l[q].gen) ∧ w.cell? ⟨g, q * 3 + 1, none⟩ = some (.bool l[q].live) ∧ w.cell? ⟨g, q * 3 + 2, none⟩ = some (.int .i64 l[q].val) := by
  have hlen := cls_length l
  obtain ⟨a1, a2, a3⟩ := cls_get l q hql
  refine ⟨?_, ?_, ?_⟩
  · rw [kr.cell, List.getElem?_append_left (by omega)]; exact a1
  · rw [kr.cell, List.getElem?_append_left (by omega)]; exact a2
  · rw [kr.cell, List.getElem?_append_left (by omega)]; exact a3
set_option maxRecDepth 100000 in
set_option maxHeartbeats 8000000 in
theorem rwith_any (A B : Option Addr) (c d : Nat) (l : List Cl) (m : Nat) (q : Nat) (x : Cl) (w : World) (hl : l.length ≤ 1000) (hq : q < l.length) (ha : Rd w w.heap.size A (cls l)) :
    Calls Try.prog 32 #[stV A l.length c B m d, .int .i64 q, clV x] w fun e w' => ∃ A' c', e = .returned (stV A' l.length c' B m d) ∧ Rd w' w'.heap.size A' (cls (l.set q x)) ∧ Fr w.heap.size A' ∧ Below w.heap.size w w' := by
  obtain ⟨iT, hi, hz0, hz1, hz2⟩ := info_parts rcell_info
  obtain ⟨ad, rfl, hadb, _⟩ := ha.cl hq
  have hlen := cls_length l
  obtain ⟨g, lv, v⟩ := x
  go_enter Try.func32, Try.ntmps32
  go_upto_region 2 with fail
  generalize hV : World.alloc _ _ = w1
  have hb1 : Below w.heap.size w w1 := by subst hV; (repeat (first | with_reducible exact Below.refl _ _ | with_reducible assumption | with_reducible refine Below.drew ?_ | with_reducible refine Below.drewN ?_ _ | with_reducible refine Below.alloc1 ?_ _ | with_reducible refine Below.setCell1 ?_ (by first | omega | (simp; done) | (simp; omega)) _ | with_reducible refine Below.step ?_ (by with_reducible assumption)))
  have k0 : Bk w1 w.heap.size 25 (stC (some ad) l.length c B m d) := by subst hV; (repeat (first | with_reducible exact Bk.new' _ _ _ _ (by simp; done) | with_reducible assumption | with_reducible refine Bk.alloc ?_ _ | with_reducible refine Bk.drew ?_ | with_reducible refine Bk.drewN ?_ _ | with_reducible refine Bk.step ?_ (by with_reducible assumption) | with_reducible refine Bk.far ?_ (by first | omega | (simp; done) | (simp; omega)) _))
  have k1 : Bk w1 (w.heap.size + 1) 64 (clC ⟨g, lv, v⟩) := by subst hV; (repeat (first | with_reducible exact Bk.new' _ _ _ _ (by simp; done) | with_reducible assumption | with_reducible refine Bk.alloc ?_ _ | with_reducible refine Bk.drew ?_ | with_reducible refine Bk.drewN ?_ _ | with_reducible refine Bk.step ?_ (by with_reducible assumption) | with_reducible refine Bk.far ?_ (by first | omega | (simp; done) | (simp; omega)) _))
  have k2 : Bk w1 (w.heap.size + 2) 25 (stC none 0 0 none 0 0) := by subst hV; (repeat (first | with_reducible exact Bk.new' _ _ _ _ (by simp; done) | with_reducible assumption | with_reducible refine Bk.alloc ?_ _ | with_reducible refine Bk.drew ?_ | with_reducible refine Bk.drewN ?_ _ | with_reducible refine Bk.step ?_ (by with_reducible assumption) | with_reducible refine Bk.far ?_ (by first | omega | (simp; done) | (simp; omega)) _))
  clear hV
  have ha1 := ha.below hb1
  have lt2 := k2.lt
  have k0_0 := k0.cell 0; have k0_f0 := k0.frozen 0; have k0_1 := k0.cell 1; have k0_f1 := k0.frozen 1; simp only [List.set_cons_zero, List.set_cons_succ, List.getElem?_cons_zero, List.getElem?_cons_succ] at k0_0 k0_1; have lt_k0 := k0.lt
  go_upto_region 3 with (at_builtin; refine wpList_append_own _ rfl (.tmp 8) (.tmp 10) 22 rfl w1.heap.size 64 iT _ 3 24 Try.underlying22 hi hz0 hz1 hz2 rfl (by omega) (.slice none 0 0) 0 [] rfl own_none ad l.length c (cls l) rfl (by rw [hlen]; omega) ?c1 (cls_one l) (by unfold maxLen; omega) (by omega) (by omega) ?_; rotate_right; intro v' w2 h2 h3 h4)
  case c1 => exact rd_hnews ha1
  simp only [Nat.zero_add, List.nil_append] at h2
  obtain ⟨A', c', rfl⟩ := own_form h2
  obtain ⟨G, pad, rfl, hGb, hGc, kr⟩ := own_bk h2 (by omega)
  have hy : Below w1.heap.size w1 w2 := (Below.refl w1.heap.size _).grown h3 (by omega) (fun k hk => by cases hk)
  have hb2 : Below w.heap.size w w2 := hb1.then_ hy hb1.size
  (try clear k0_0 k0_f0 k0_1 k0_f1 lt_k0)
  replace k0 := k0.step hy; (try clear lt_k0); have lt_k0 := k0.lt; replace k1 := k1.step hy; (try clear k1_0 k1_f0 k1_1 k1_f1 k1_2 k1_f2); have k1_0 := k1.cell 0; have k1_f0 := k1.frozen 0; have k1_1 := k1.cell 1; have k1_f1 := k1.frozen 1; have k1_2 := k1.cell 2; have k1_f2 := k1.frozen 2; simp only [List.set_cons_zero, List.set_cons_succ, List.getElem?_cons_zero, List.getElem?_cons_succ] at k1_0 k1_1 k1_2; (try clear lt_k1); have lt_k1 := k1.lt; replace k2 := k2.step hy; (try clear k2_0 k2_f0 k2_1 k2_f1); have k2_0 := k2.cell 0; have k2_f0 := k2.frozen 0; have k2_1 := k2.cell 1; have k2_f1 := k2.frozen 1; simp only [List.set_cons_zero, List.set_cons_succ, List.getElem?_cons_zero, List.getElem?_cons_succ] at k2_0 k2_1; (try clear lt_k2); have lt_k2 := k2.lt
  have hG : G < w2.heap.size := kr.lt
  have hsz := hy.size
  clear hy h3 h4 h2 ha1 hb1
  have hset := cls_set l pad q hq ⟨g, lv, v⟩
  obtain ⟨c1, c2, c3⟩ := row_cells' kr hq
  have f0 := kr.frozen (q * 3)
  have f1 := kr.frozen (q * 3 + 1)
  have f2 := kr.frozen (q * 3 + 2)
  have i1 : (q : Int) < (l.length : Int) := by omega
  have k0_0 := k0.cell 0; have k0_f0 := k0.frozen 0; have k0_1 := k0.cell 1; have k0_f1 := k0.frozen 1; simp only [List.set_cons_zero, List.set_cons_succ, List.getElem?_cons_zero, List.getElem?_cons_succ] at k0_0 k0_1; have lt_k0 := k0.lt
  go_upto_region 4 with fail
  (try clear k0_0 k0_f0 k0_1 k0_f1 lt_k0) ; (try clear k1_0 k1_f0 k1_1 k1_f1 k1_2 k1_f2 lt_k1) ; (try clear k2_0 k2_f0 k2_1 k2_f1 lt_k2)
  clear c1 c2 c3 f0 f1 f2
  generalize hV : World.setCell (World.setCell (World.setCell w2 _ _) _ _) _ _ = w3
  have hb3 : Below w.heap.size w w3 := by subst hV; exact ((hb2.setCell (by dsimp only; omega) _).setCell (by dsimp only; omega) _).setCell (by dsimp only; omega) _
  replace k0 : Bk w3 w.heap.size 25 (stC (some ad) l.length c B m d) := by subst hV; refine ((k0.far ?_ _).far ?_ _).far ?_ _ <;> (dsimp only; omega)
  replace k2 : Bk w3 (w.heap.size + 2) 25 (stC none 0 0 none 0 0) := by subst hV; refine ((k2.far ?_ _).far ?_ _).far ?_ _ <;> (dsimp only; omega)
  replace kr : Bk w3 G 64 (cls (l.set q ⟨g, lv, v⟩) ++ pad) := by subst hV; rw [← hset]; exact ((kr.set_ _ _).set_ _ _).set_ _ _
  clear hV k1 hb2 hset hG
  have k0_0 := k0.cell 0; have k0_f0 := k0.frozen 0; have k0_1 := k0.cell 1; have k0_f1 := k0.frozen 1; simp only [List.set_cons_zero, List.set_cons_succ, List.getElem?_cons_zero, List.getElem?_cons_succ] at k0_0 k0_1; have lt_k0 := k0.lt
  go_upto_region 5 with fail
  (try clear k0_0 k0_f0 k0_1 k0_f1 lt_k0)
  generalize hV : World.setCell w3 _ _ = w4
  have hb4 : Below w.heap.size w w4 := by subst hV; exact hb3.setCell (by dsimp only; omega) _
  replace k0 : Bk w4 w.heap.size 25 (stC (some ⟨G, 0, none⟩) l.length c' B m d) := by subst hV; exact k0.set_ 0 _
  replace k2 : Bk w4 (w.heap.size + 2) 25 (stC none 0 0 none 0 0) := by subst hV; exact k2.far (by dsimp only; omega) _
  replace kr : Bk w4 G 64 (cls (l.set q ⟨g, lv, v⟩) ++ pad) := by subst hV; exact kr.far (by dsimp only; omega) _
  clear hV hb3
  have k0_0 := k0.cell 0; have k0_f0 := k0.frozen 0; have k0_1 := k0.cell 1; have k0_f1 := k0.frozen 1; simp only [List.set_cons_zero, List.set_cons_succ, List.getElem?_cons_zero, List.getElem?_cons_succ] at k0_0 k0_1; have lt_k0 := k0.lt; have k2_0 := k2.cell 0; have k2_f0 := k2.frozen 0; have k2_1 := k2.cell 1; have k2_f1 := k2.frozen 1; simp only [List.set_cons_zero, List.set_cons_succ, List.getElem?_cons_zero, List.getElem?_cons_succ] at k2_0 k2_1; have lt_k2 := k2.lt
  go_wp2_with fail
  (try clear k0_0 k0_f0 k0_1 k0_f1 lt_k0) ; (try clear k2_0 k2_f0 k2_1 k2_f1 lt_k2)
  generalize hV : World.setCell (World.setCell w4 _ _) _ _ = w5
  have hb5 : Below w.heap.size w w5 := by subst hV; exact (hb4.setCell (by dsimp only; omega) _).setCell (by dsimp only; omega) _
  replace k2 : Bk w5 (w.heap.size + 2) 25 (stC (some ⟨G, 0, none⟩) l.length c' B m d) := by subst hV; exact (k2.set_ 0 _).set_ 1 _
  replace kr : Bk w5 G 64 (cls (l.set q ⟨g, lv, v⟩) ++ pad) := by subst hV; refine (kr.far ?_ _).far ?_ _ <;> (dsimp only; omega)
  clear hV
  have k2_0 := k2.cell 0; have k2_f0 := k2.frozen 0; have k2_1 := k2.cell 1; have k2_f1 := k2.frozen 1; simp only [List.set_cons_zero, List.set_cons_succ, List.getElem?_cons_zero, List.getElem?_cons_succ] at k2_0 k2_1; have lt_k2 := k2.lt
  exact bodyPost_ret (v := stV (some ⟨G, 0, none⟩) l.length c' B m d) (by simp only [results, Try.results32]; go_simp) rfl ⟨some ⟨G, 0, none⟩, c', rfl, kr.rd1, fun ad e => by (cases e; show w.heap.size ≤ G; omega), hb5⟩

/-! Get, Set. -/
theorem rplace_get (l : List Cl) (f : List Int) (h : Int) (he : pCheck l f = 0) : pGet l f h = (if rPlace l h < 0 then (0, false) else ((l.getD (rPlace l h).toNat default).val, true)) := by
  unfold pGet rPlace
  by_cases hf : (pFind l h).2 = true
  · obtain ⟨q, hq, e, _⟩ := find_ok hf
    rw [if_neg (by simp [he, hf]), if_pos hf, e, if_neg (by omega)]
  · have : (pFind l h).2 = false := by simpa using hf
    rw [if_pos (.inr this), if_neg hf, if_pos (by omega)]
theorem rPlace_cases (l : List Cl) (h : Int) : ((pFind l h).2 = false ∧ rPlace l h = -1) ∨ ((pFind l h).2 = true ∧ ∃ q : Nat, ∃ hq : q < l.length, rPlace l h = q ∧ (pFind l h).1 = q ∧ l[q].live = true) := by
  by_cases hf : (pFind l h).2 = true
  · obtain ⟨q, hq, e, hl, _⟩ := find_ok hf
    exact .inr ⟨hf, q, hq, by unfold rPlace; rw [if_pos hf, e], e, hl⟩
  · exact .inl ⟨by simpa using hf, by unfold rPlace; rw [if_neg hf]⟩
set_option maxRecDepth 100000 in
set_option maxHeartbeats 8000000 in
theorem rGet_any (A B : Option Addr) (c d : Nat) (l : List Cl) (f : List Int) (h : Int) (w : World) (hl : l.length ≤ 1000) (hf : f.length ≤ 1000) (ha : Rd w w.heap.size A (cls l)) (hb : Rd w w.heap.size B (ints f)) :
    Calls Try.prog 19 #[stV A l.length c B f.length d, .int .i64 h] w fun e w' => e = .returned (.tuple #[.int .i64 (pGet l f h).1, .bool (pGet l f h).2]) ∧ Below w.heap.size w w' := by
  have hC := fun (W : World) (h' : Below w.heap.size w W) => rCheck_any A B c d l f W hl hf ((ha.below h').more h'.size) ((hb.below h').more h'.size)
  by_cases he : pCheck l f = 0
  · have ok := ok_of he
    have hP := fun (W : World) (h' : Below w.heap.size w W) => rplace_any A B c d l f.length h W ok.n.2 ok.gen ((ha.below h').more h'.size)
    have hr := rplace_get l f h he
    rw [he] at hC
    rcases rPlace_cases l h with ⟨_, e1⟩ | ⟨_, q, hq, e1, _, _⟩
    · rw [e1] at hr hP
      rw [if_pos (by omega)] at hr
      rw [hr]
      clear hr e1 ok
      go_enter Try.func19, Try.ntmps19
      go_wp2_with fail
      generalize hV : World.alloc w _ = w1
      have hb1 : Below w.heap.size w w1 := by subst hV; (repeat (first | with_reducible exact Below.refl _ _ | with_reducible assumption | with_reducible refine Below.drew ?_ | with_reducible refine Below.drewN ?_ _ | with_reducible refine Below.alloc1 ?_ _ | with_reducible refine Below.setCell1 ?_ (by first | omega | (simp; done) | (simp; omega)) _ | with_reducible refine Below.step ?_ (by with_reducible assumption)))
      have k0 : Bk w1 w.heap.size 25 (stC A l.length c B f.length d) := by subst hV; (repeat (first | with_reducible exact Bk.new' _ _ _ _ (by simp; done) | with_reducible assumption | with_reducible refine Bk.alloc ?_ _ | with_reducible refine Bk.drew ?_ | with_reducible refine Bk.drewN ?_ _ | with_reducible refine Bk.step ?_ (by with_reducible assumption) | with_reducible refine Bk.far ?_ (by first | omega | (simp; done) | (simp; omega)) _))
      clear hV
      refine (hP _ hb1).mono ?_; rintro e x4 ⟨rfl, hx4⟩
      replace k0 := k0.step hx4
      replace hb1 : Below w.heap.size w x4 := hb1.step hx4
      have k0_0 := k0.cell 0; have k0_f0 := k0.frozen 0; have k0_1 := k0.cell 1; have k0_f1 := k0.frozen 1; simp only [List.set_cons_zero, List.set_cons_succ, List.getElem?_cons_zero, List.getElem?_cons_succ] at k0_0 k0_1; have lt_k0 := k0.lt
      go_wp2_with fail
      refine (hC _ hb1).mono ?_; rintro e x5 ⟨rfl, hx5⟩
      go_wp2
      go_ret2
      exact ⟨rfl, by (repeat (first | with_reducible exact Below.refl _ _ | with_reducible assumption | with_reducible refine Below.drew ?_ | with_reducible refine Below.drewN ?_ _ | with_reducible refine Below.alloc1 ?_ _ | with_reducible refine Below.setCell1 ?_ (by first | omega | (simp; done) | (simp; omega)) _ | with_reducible refine Below.step ?_ (by with_reducible assumption)))⟩
    · rw [e1] at hr hP
      rw [if_neg (by omega), Int.toNat_natCast, getD_at _ _ hq] at hr
      rw [hr]
      clear hr e1 ok
      obtain ⟨ad, rfl, hadb, _⟩ := ha.cl hq
      have hcl := fun (W : World) (h : Below w.heap.size w W) => (ha.below h).cl hq
      go_enter Try.func19, Try.ntmps19
      go_wp2_with fail
      generalize hV : World.alloc w _ = w1
      have hb1 : Below w.heap.size w w1 := by subst hV; (repeat (first | with_reducible exact Below.refl _ _ | with_reducible assumption | with_reducible refine Below.drew ?_ | with_reducible refine Below.drewN ?_ _ | with_reducible refine Below.alloc1 ?_ _ | with_reducible refine Below.setCell1 ?_ (by first | omega | (simp; done) | (simp; omega)) _ | with_reducible refine Below.step ?_ (by with_reducible assumption)))
      have k0 : Bk w1 w.heap.size 25 (stC (some ad) l.length c B f.length d) := by subst hV; (repeat (first | with_reducible exact Bk.new' _ _ _ _ (by simp; done) | with_reducible assumption | with_reducible refine Bk.alloc ?_ _ | with_reducible refine Bk.drew ?_ | with_reducible refine Bk.drewN ?_ _ | with_reducible refine Bk.step ?_ (by with_reducible assumption) | with_reducible refine Bk.far ?_ (by first | omega | (simp; done) | (simp; omega)) _))
      clear hV
      refine (hP _ hb1).mono ?_; rintro e x4 ⟨rfl, hx4⟩
      replace k0 := k0.step hx4
      replace hb1 : Below w.heap.size w x4 := hb1.step hx4
      clear hx4
      have k0_0 := k0.cell 0; have k0_f0 := k0.frozen 0; have k0_1 := k0.cell 1; have k0_f1 := k0.frozen 1; simp only [List.set_cons_zero, List.set_cons_succ, List.getElem?_cons_zero, List.getElem?_cons_succ] at k0_0 k0_1; have lt_k0 := k0.lt
      go_wp2_with fail
      refine (hC _ hb1).mono ?_; rintro e x5 ⟨rfl, hx5⟩
      replace k0 := k0.step hx5; (try clear k0_0 k0_f0 k0_1 k0_f1); have k0_0 := k0.cell 0; have k0_f0 := k0.frozen 0; have k0_1 := k0.cell 1; have k0_f1 := k0.frozen 1; simp only [List.set_cons_zero, List.set_cons_succ, List.getElem?_cons_zero, List.getElem?_cons_succ] at k0_0 k0_1; (try clear lt_k0); have lt_k0 := k0.lt
      replace hb1 : Below w.heap.size w x5 := hb1.step hx5
      obtain ⟨ad', e, _, c1, c2, c3⟩ := hcl _ hb1
      injection e with e
      subst e
      have i1 : (q : Int) < (l.length : Int) := by omega
      clear hcl hP hC hx5
      generalize hxq : l[q] = x at *
      go_wp2
      go_ret2
      exact ⟨by rw [hxq]; rfl, by (repeat (first | with_reducible exact Below.refl _ _ | with_reducible assumption | with_reducible refine Below.drew ?_ | with_reducible refine Below.drewN ?_ _ | with_reducible refine Below.alloc1 ?_ _ | with_reducible refine Below.setCell1 ?_ (by first | omega | (simp; done) | (simp; omega)) _ | with_reducible refine Below.step ?_ (by with_reducible assumption)))⟩
  · have hr : pGet l f h = (0, false) := by unfold pGet; rw [if_pos (.inl he)]
    have hP := fun (W : World) (h' : Below w.heap.size w W) => rplace_some A B c d l f.length h W hl ((ha.below h').more h'.size)
    have hne : (pCheck l f != 0) = true := by simpa using he
    rw [hr]
    generalize pCheck l f = ec at *
    clear he hr
    go_enter Try.func19, Try.ntmps19
    go_wp2_with fail
    generalize hV : World.alloc w _ = w1
    have hb1 : Below w.heap.size w w1 := by subst hV; (repeat (first | with_reducible exact Below.refl _ _ | with_reducible assumption | with_reducible refine Below.drew ?_ | with_reducible refine Below.drewN ?_ _ | with_reducible refine Below.alloc1 ?_ _ | with_reducible refine Below.setCell1 ?_ (by first | omega | (simp; done) | (simp; omega)) _ | with_reducible refine Below.step ?_ (by with_reducible assumption)))
    have k0 : Bk w1 w.heap.size 25 (stC A l.length c B f.length d) := by subst hV; (repeat (first | with_reducible exact Bk.new' _ _ _ _ (by simp; done) | with_reducible assumption | with_reducible refine Bk.alloc ?_ _ | with_reducible refine Bk.drew ?_ | with_reducible refine Bk.drewN ?_ _ | with_reducible refine Bk.step ?_ (by with_reducible assumption) | with_reducible refine Bk.far ?_ (by first | omega | (simp; done) | (simp; omega)) _))
    clear hV
    refine (hP _ hb1).mono ?_; rintro e x4 ⟨⟨r, rfl⟩, hx4⟩
    replace k0 := k0.step hx4
    replace hb1 : Below w.heap.size w x4 := hb1.step hx4
    clear hx4
    have k0_0 := k0.cell 0; have k0_f0 := k0.frozen 0; have k0_1 := k0.cell 1; have k0_f1 := k0.frozen 1; simp only [List.set_cons_zero, List.set_cons_succ, List.getElem?_cons_zero, List.getElem?_cons_succ] at k0_0 k0_1; have lt_k0 := k0.lt
    go_wp2_with fail
    refine (hC _ hb1).mono ?_; rintro e x5 ⟨rfl, hx5⟩
    go_wp2
    go_ret2
    exact ⟨rfl, by (repeat (first | with_reducible exact Below.refl _ _ | with_reducible assumption | with_reducible refine Below.drew ?_ | with_reducible refine Below.drewN ?_ _ | with_reducible refine Below.alloc1 ?_ _ | with_reducible refine Below.setCell1 ?_ (by first | omega | (simp; done) | (simp; omega)) _ | with_reducible refine Below.step ?_ (by with_reducible assumption)))⟩
end Go.Proofs.Ytnmpighdkdffbaa
