/- The walk of PoolTells. -/
import Derived.Test.YtnmpighdkdffbaaLaw03a
namespace Go.Proofs.Ytnmpighdkdffbaa
open Go.RowKit Go.Sort
set_option linter.unusedSimpArgs false
set_option linter.unusedVariables false

theorem news_any (n : Int) : ∃ (ln : List Cl) (fn : List Int) (code : Int), ln.length ≤ 64 ∧ fn.length ≤ 64 ∧
    (∀ w, Calls Try.prog 20 #[.int .i64 n] w fun e w' => ∃ V', e = .returned (.tuple #[V', .int .i64 code]) ∧ StAt w' V' ln fn ∧ Below w.heap.size w w') ∧
    (∀ w, Calls Try.prog 21 #[.int .i64 n] w fun e w' => ∃ V', e = .returned (.tuple #[V', .int .i64 code]) ∧ StAt w' V' ln fn ∧ Below w.heap.size w w') := by
  by_cases h : n < 1 ∨ 64 < n
  · exact ⟨[], [], 8, by simp, by simp, fun w => (pool_New_no n w h).mono fun e w' ⟨V, he, hs, hb⟩ => ⟨V, he, hs.at_, hb⟩, fun w => rNew_no n w h⟩
  · obtain ⟨m, rfl⟩ : ∃ m : Nat, n = m := ⟨n.toNat, by omega⟩
    exact ⟨newL m, downs m m, 0, by simp; omega, by rw [downs_len]; omega, fun w => (pool_New_yes m w (by omega) (by omega)).mono fun e w' ⟨V, he, hs, hb⟩ => ⟨V, he, hs.at_, hb⟩, fun w => rNew_yes m w (by omega) (by omega)⟩
theorem row_m {args : Array Value} {g : FuncId} {w : World} {n : Nat} {xs : List Value} {t : TypeId} {s : Nat} (h : Calls Try.prog g args w fun e w' => ∃ B d, e = .returned (.slice B n d) ∧ w'.ownsRow w.heap.size t s (.slice B n d) n xs ∧ Below w.heap.size w w') : Calls Try.prog g args w (mPost (RowAt n xs) w) :=
  (h.mono fun _ _ ⟨A, c, he, hr, hb⟩ => ⟨A, c, he, own_rd hr, hb⟩ : Calls Try.prog g args w fun e w' => ∃ A c, e = .returned (.slice A n c) ∧ Rd w' w'.heap.size A xs ∧ Below w.heap.size w w').mrow
theorem ints_self (A B : Option Addr) (c d : Nat) (l : List Int) (w : World) (hl : l.length ≤ maxLen) (ha : Rd w w.heap.size A (ints l)) (hb : Rd w w.heap.size B (ints l)) :
    Calls Try.prog 26 #[.slice A l.length c, .slice B l.length d] w fun e w' => e = .returned (.bool true) ∧ ∃ n, w.drewN n = w' := (SameInts_any A B c d l l w hl ha hb).lit (by simp)

set_option maxRecDepth 100000 in
set_option maxHeartbeats 16000000 in
theorem PoolTells_walk (A B : Option Addr) (c d : Nat) (l : List Cl) (f : List Int) (A' B' : Option Addr) (c' d' : Nat) (l' : List Cl) (f' : List Int) (n : Int) (w : World) (hl : l.length ≤ maxLen) (hf : f.length ≤ maxLen) (hd : f.length ≤ d) (hl' : l'.length ≤ maxLen) (hf' : f'.length ≤ maxLen) (hd' : f'.length ≤ d') (hh : -9223372036854775808 ≤ n ∧ n ≤ 9223372036854775807)
    (ha : Rd w w.heap.size A (cls l)) (hb : Rd w w.heap.size B (ints f)) (ha' : Rd w w.heap.size A' (cls l')) (hb' : Rd w w.heap.size B' (ints f')) :
    Calls Try.prog 4 #[stV A l.length c B f.length d, stV A' l'.length c' B' f'.length d', .int .i64 n] w fun e w' => e = .returned (.bool true) ∧ Below w.heap.size w w' := by
  have hfew := fun W => few_any A B c d l.length f.length W hl hf
  have hfew' := fun W => few_any A' B' c' d' l'.length f'.length W hl' hf'
  by_cases hs : l.length ≤ 70 ∧ f.length ≤ 70
  · rw [decide_eq_true hs.1, decide_eq_true hs.2] at hfew
    by_cases hs' : l'.length ≤ 70 ∧ f'.length ≤ 70
    · rw [decide_eq_true hs'.1, decide_eq_true hs'.2] at hfew'
      have hl1 : l.length ≤ 1000 := by omega
      have hf1 : f.length ≤ 1000 := by omega
      have hl2 : l'.length ≤ 1000 := by omega
      have hf2 : f'.length ≤ 1000 := by omega
      obtain ⟨ln, fn, code, n1, n2, hN, hRN⟩ := news_any n
      have n3 : ln.length ≤ 1000 := by omega
      have n4 : fn.length ≤ 1000 := by omega
      have hlen : (pHandles l f).length ≤ maxLen := by unfold maxLen pHandles; split; simp; have := pHand_len l 0; omega
      have hGp := fun V W s => pool_Get_any V l f n W hl1 hf1 hh s
      have hGr := fun W r1 r2 => rGet_any A B c d l f n W hl1 hf1 r1 r2
      have hUp := fun V W s => pool_Used_any V l f W hl1 hf1 s
      have hUr := fun W r1 r2 => rUsed_any A B c d l f W hl1 hf1 r1 r2
      have hHp := fun V W s => row_m (pool_Handles_any V l f W hl1 hf1 s)
      have hHr := fun W r1 r2 => row_m (rHandles_any A B c d l f W hl1 hf1 r1 r2)
      have hCr := fun W r1 r2 => rCheck_any A B c d l f W hl1 hf1 r1 r2
      have hCp := fun E e W r1 r2 => pool_Check_any E B e d l f W hl1 hf1 hd r1 r2
      have hSp := fun V V' W s s' => pool_Same_any V V' l l' f f' W hl1 hf1 s s'
      have hSr := fun W r1 r2 r3 r4 => rSame_any A B A' B' c d c' d' l l' f f' W hl1 hf1 r1 r2 r3 r4
      generalize pGet l f n = gt at *
      generalize pHandles l f = hs at *
      generalize pCheck l f = ck at *
      generalize (decide (l = l') && decide (f = f')) = sm at *
      clear n1 n2 hl hf hl' hf'
      go_enter Try.func4, Try.ntmps4
      go_wp2_with fail
      generalize hV : World.alloc (World.alloc w _) _ = w1
      have hb0 : Below w.heap.size w w1 := by subst hV; (repeat (first | with_reducible exact Below.refl _ _ | with_reducible assumption | with_reducible refine Below.drew ?_ | with_reducible refine Below.drewN ?_ _ | with_reducible refine Below.alloc1 ?_ _ | with_reducible refine Below.setCell1 ?_ (by first | omega | (simp; done) | (simp; omega)) _ | with_reducible refine Below.step ?_ (by with_reducible assumption)))
      have k0 : Bk w1 w.heap.size 25 (stC A l.length c B f.length d) := by subst hV; (repeat (first | with_reducible exact Bk.new' _ _ _ _ (by simp; done) | with_reducible assumption | with_reducible refine Bk.alloc ?_ _ | with_reducible refine Bk.drew ?_ | with_reducible refine Bk.drewN ?_ _ | with_reducible refine Bk.step ?_ (by with_reducible assumption) | with_reducible refine Bk.far ?_ (by first | omega | (simp; done) | (simp; omega)) _))
      have k9 : Bk w1 (w.heap.size + 1) 25 (stC A' l'.length c' B' f'.length d') := by subst hV; (repeat (first | with_reducible exact Bk.new' _ _ _ _ (by simp; done) | with_reducible assumption | with_reducible refine Bk.alloc ?_ _ | with_reducible refine Bk.drew ?_ | with_reducible refine Bk.drewN ?_ _ | with_reducible refine Bk.step ?_ (by with_reducible assumption) | with_reducible refine Bk.far ?_ (by first | omega | (simp; done) | (simp; omega)) _))
      clear hV
      refine (hfew _).mono ?_; rintro e y0 ⟨rfl, hx1⟩
      clear hfew
      replace k0 := k0.step hx1
      replace k9 := k9.step hx1
      replace hb0 : Below w.heap.size w y0 := hb0.step hx1
      have k0_0 := k0.cell 0; have k0_f0 := k0.frozen 0; have k0_1 := k0.cell 1; have k0_f1 := k0.frozen 1; simp only [List.set_cons_zero, List.set_cons_succ, List.getElem?_cons_zero, List.getElem?_cons_succ] at k0_0 k0_1; have lt_k0 := k0.lt; have k9_0 := k9.cell 0; have k9_f0 := k9.frozen 0; have k9_1 := k9.cell 1; have k9_f1 := k9.frozen 1; simp only [List.set_cons_zero, List.set_cons_succ, List.getElem?_cons_zero, List.getElem?_cons_succ] at k9_0 k9_1; have lt_k9 := k9.lt
      clear hx1
      go_wp2_with fail
      refine (hfew' _).mono ?_; rintro e y1 ⟨rfl, hx1⟩
      clear hfew'
      replace k0 := k0.step hx1; (try clear k0_0 k0_f0 k0_1 k0_f1); have k0_0 := k0.cell 0; have k0_f0 := k0.frozen 0; have k0_1 := k0.cell 1; have k0_f1 := k0.frozen 1; simp only [List.set_cons_zero, List.set_cons_succ, List.getElem?_cons_zero, List.getElem?_cons_succ] at k0_0 k0_1; (try clear lt_k0); have lt_k0 := k0.lt; replace k9 := k9.step hx1; (try clear k9_0 k9_f0 k9_1 k9_f1); have k9_0 := k9.cell 0; have k9_f0 := k9.frozen 0; have k9_1 := k9.cell 1; have k9_f1 := k9.frozen 1; simp only [List.set_cons_zero, List.set_cons_succ, List.getElem?_cons_zero, List.getElem?_cons_succ] at k9_0 k9_1; (try clear lt_k9); have lt_k9 := k9.lt
      replace hb0 : Below w.heap.size w y1 := hb0.step hx1
      have rA := (ha.below hb0).more hb0.size
      have rB := (hb.below hb0).more hb0.size
      have rC := (ha'.below hb0).more hb0.size
      have rD := (hb'.below hb0).more hb0.size
      clear hx1
      go_wp2_with fail
      refine (own_fn_any A B c d l f _ hl1 hf1 hd rA rB).mono ?_; rintro e y2 ⟨A1, c1, rfl, r1, hx1⟩

      replace k0 := k0.step hx1; (try clear k0_0 k0_f0 k0_1 k0_f1); have k0_0 := k0.cell 0; have k0_f0 := k0.frozen 0; have k0_1 := k0.cell 1; have k0_f1 := k0.frozen 1; simp only [List.set_cons_zero, List.set_cons_succ, List.getElem?_cons_zero, List.getElem?_cons_succ] at k0_0 k0_1; (try clear lt_k0); have lt_k0 := k0.lt; replace k9 := k9.step hx1; (try clear k9_0 k9_f0 k9_1 k9_f1); have k9_0 := k9.cell 0; have k9_f0 := k9.frozen 0; have k9_1 := k9.cell 1; have k9_f1 := k9.frozen 1; simp only [List.set_cons_zero, List.set_cons_succ, List.getElem?_cons_zero, List.getElem?_cons_succ] at k9_0 k9_1; (try clear lt_k9); have lt_k9 := k9.lt
      replace hb0 : Below w.heap.size w y2 := hb0.step hx1
      replace rA := rA.step hx1
      replace rB := rB.step hx1
      replace rC := rC.step hx1
      replace rD := rD.step hx1
      clear hx1
      go_wp2_with fail
      generalize hV : World.alloc y2 _ = z2
      have hy : Below y2.heap.size y2 z2 := by subst hV; (repeat (first | with_reducible exact Below.refl _ _ | with_reducible assumption | with_reducible refine Below.drew ?_ | with_reducible refine Below.drewN ?_ _ | with_reducible refine Below.alloc1 ?_ _ | with_reducible refine Below.setCell1 ?_ (by first | omega | (simp; done) | (simp; omega)) _ | with_reducible refine Below.step ?_ (by with_reducible assumption)))
      have k1 : Bk z2 y2.heap.size 30 (stC A1 l.length c1 B f.length d) := by subst hV; (repeat (first | with_reducible exact Bk.new' _ _ _ _ (by simp; done) | with_reducible assumption | with_reducible refine Bk.alloc ?_ _ | with_reducible refine Bk.drew ?_ | with_reducible refine Bk.drewN ?_ _ | with_reducible refine Bk.step ?_ (by with_reducible assumption) | with_reducible refine Bk.far ?_ (by first | omega | (simp; done) | (simp; omega)) _))
      clear hV
      replace k0 := k0.step hy; (try clear k0_0 k0_f0 k0_1 k0_f1); have k0_0 := k0.cell 0; have k0_f0 := k0.frozen 0; have k0_1 := k0.cell 1; have k0_f1 := k0.frozen 1; simp only [List.set_cons_zero, List.set_cons_succ, List.getElem?_cons_zero, List.getElem?_cons_succ] at k0_0 k0_1; (try clear lt_k0); have lt_k0 := k0.lt; replace k9 := k9.step hy; (try clear k9_0 k9_f0 k9_1 k9_f1); have k9_0 := k9.cell 0; have k9_f0 := k9.frozen 0; have k9_1 := k9.cell 1; have k9_f1 := k9.frozen 1; simp only [List.set_cons_zero, List.set_cons_succ, List.getElem?_cons_zero, List.getElem?_cons_succ] at k9_0 k9_1; (try clear lt_k9); have lt_k9 := k9.lt
      replace hb0 : Below w.heap.size w z2 := hb0.step hy
      replace rA := rA.step hy
      replace rB := rB.step hy
      replace rC := rC.step hy
      replace rD := rD.step hy
      replace r1 := r1.step hy
      clear hy
      have k1_0 := k1.cell 0; have k1_f0 := k1.frozen 0; have k1_1 := k1.cell 1; have k1_f1 := k1.frozen 1; simp only [List.set_cons_zero, List.set_cons_succ, List.getElem?_cons_zero, List.getElem?_cons_succ] at k1_0 k1_1; have lt_k1 := k1.lt
      go_wp2_with fail
      refine (hGp _ _ ⟨A1, c1, B, d, rfl, hd, r1, rB⟩).mono ?_; rintro e y3 ⟨rfl, hx1⟩
      replace k0 := k0.step hx1; (try clear k0_0 k0_f0 k0_1 k0_f1); have k0_0 := k0.cell 0; have k0_f0 := k0.frozen 0; have k0_1 := k0.cell 1; have k0_f1 := k0.frozen 1; simp only [List.set_cons_zero, List.set_cons_succ, List.getElem?_cons_zero, List.getElem?_cons_succ] at k0_0 k0_1; (try clear lt_k0); have lt_k0 := k0.lt; replace k9 := k9.step hx1; (try clear k9_0 k9_f0 k9_1 k9_f1); have k9_0 := k9.cell 0; have k9_f0 := k9.frozen 0; have k9_1 := k9.cell 1; have k9_f1 := k9.frozen 1; simp only [List.set_cons_zero, List.set_cons_succ, List.getElem?_cons_zero, List.getElem?_cons_succ] at k9_0 k9_1; (try clear lt_k9); have lt_k9 := k9.lt; replace k1 := k1.step hx1; (try clear k1_0 k1_f0 k1_1 k1_f1); have k1_0 := k1.cell 0; have k1_f0 := k1.frozen 0; have k1_1 := k1.cell 1; have k1_f1 := k1.frozen 1; simp only [List.set_cons_zero, List.set_cons_succ, List.getElem?_cons_zero, List.getElem?_cons_succ] at k1_0 k1_1; (try clear lt_k1); have lt_k1 := k1.lt
      replace hb0 : Below w.heap.size w y3 := hb0.step hx1
      replace rA := rA.step hx1
      replace rB := rB.step hx1
      replace rC := rC.step hx1
      replace rD := rD.step hx1
      replace r1 := r1.step hx1
      clear hx1
      go_wp2_with fail
      refine (hGr _ rA rB).mono ?_; rintro e y4 ⟨rfl, hx1⟩
      replace k0 := k0.step hx1; (try clear k0_0 k0_f0 k0_1 k0_f1); have k0_0 := k0.cell 0; have k0_f0 := k0.frozen 0; have k0_1 := k0.cell 1; have k0_f1 := k0.frozen 1; simp only [List.set_cons_zero, List.set_cons_succ, List.getElem?_cons_zero, List.getElem?_cons_succ] at k0_0 k0_1; (try clear lt_k0); have lt_k0 := k0.lt; replace k9 := k9.step hx1; (try clear k9_0 k9_f0 k9_1 k9_f1); have k9_0 := k9.cell 0; have k9_f0 := k9.frozen 0; have k9_1 := k9.cell 1; have k9_f1 := k9.frozen 1; simp only [List.set_cons_zero, List.set_cons_succ, List.getElem?_cons_zero, List.getElem?_cons_succ] at k9_0 k9_1; (try clear lt_k9); have lt_k9 := k9.lt; replace k1 := k1.step hx1; (try clear k1_0 k1_f0 k1_1 k1_f1); have k1_0 := k1.cell 0; have k1_f0 := k1.frozen 0; have k1_1 := k1.cell 1; have k1_f1 := k1.frozen 1; simp only [List.set_cons_zero, List.set_cons_succ, List.getElem?_cons_zero, List.getElem?_cons_succ] at k1_0 k1_1; (try clear lt_k1); have lt_k1 := k1.lt
      replace hb0 : Below w.heap.size w y4 := hb0.step hx1
      replace rA := rA.step hx1
      replace rB := rB.step hx1
      replace rC := rC.step hx1
      replace rD := rD.step hx1
      replace r1 := r1.step hx1
      clear hx1
      clear hGp hGr
      go_wp2_with fail
      refine (hN _).mono ?_; rintro e y5 ⟨Va, rfl, sa, hx1⟩
      obtain ⟨Aa, ca, Ba, da, rfl, hda, raa, rba⟩ := sa
      replace k0 := k0.step hx1; (try clear k0_0 k0_f0 k0_1 k0_f1); have k0_0 := k0.cell 0; have k0_f0 := k0.frozen 0; have k0_1 := k0.cell 1; have k0_f1 := k0.frozen 1; simp only [List.set_cons_zero, List.set_cons_succ, List.getElem?_cons_zero, List.getElem?_cons_succ] at k0_0 k0_1; (try clear lt_k0); have lt_k0 := k0.lt; replace k9 := k9.step hx1; (try clear k9_0 k9_f0 k9_1 k9_f1); have k9_0 := k9.cell 0; have k9_f0 := k9.frozen 0; have k9_1 := k9.cell 1; have k9_f1 := k9.frozen 1; simp only [List.set_cons_zero, List.set_cons_succ, List.getElem?_cons_zero, List.getElem?_cons_succ] at k9_0 k9_1; (try clear lt_k9); have lt_k9 := k9.lt; replace k1 := k1.step hx1; (try clear k1_0 k1_f0 k1_1 k1_f1); have k1_0 := k1.cell 0; have k1_f0 := k1.frozen 0; have k1_1 := k1.cell 1; have k1_f1 := k1.frozen 1; simp only [List.set_cons_zero, List.set_cons_succ, List.getElem?_cons_zero, List.getElem?_cons_succ] at k1_0 k1_1; (try clear lt_k1); have lt_k1 := k1.lt
      replace hb0 : Below w.heap.size w y5 := hb0.step hx1
      replace rA := rA.step hx1
      replace rB := rB.step hx1
      replace rC := rC.step hx1
      replace rD := rD.step hx1
      replace r1 := r1.step hx1
      clear hx1
      go_wp2_with fail
      generalize hV : World.alloc y5 _ = z5
      have hy : Below y5.heap.size y5 z5 := by subst hV; (repeat (first | with_reducible exact Below.refl _ _ | with_reducible assumption | with_reducible refine Below.drew ?_ | with_reducible refine Below.drewN ?_ _ | with_reducible refine Below.alloc1 ?_ _ | with_reducible refine Below.setCell1 ?_ (by first | omega | (simp; done) | (simp; omega)) _ | with_reducible refine Below.step ?_ (by with_reducible assumption)))
      have ka : Bk z5 y5.heap.size 30 (stC Aa ln.length ca Ba fn.length da) := by subst hV; (repeat (first | with_reducible exact Bk.new' _ _ _ _ (by simp; done) | with_reducible assumption | with_reducible refine Bk.alloc ?_ _ | with_reducible refine Bk.drew ?_ | with_reducible refine Bk.drewN ?_ _ | with_reducible refine Bk.step ?_ (by with_reducible assumption) | with_reducible refine Bk.far ?_ (by first | omega | (simp; done) | (simp; omega)) _))
      clear hV
      replace k0 := k0.step hy; (try clear k0_0 k0_f0 k0_1 k0_f1); have k0_0 := k0.cell 0; have k0_f0 := k0.frozen 0; have k0_1 := k0.cell 1; have k0_f1 := k0.frozen 1; simp only [List.set_cons_zero, List.set_cons_succ, List.getElem?_cons_zero, List.getElem?_cons_succ] at k0_0 k0_1; (try clear lt_k0); have lt_k0 := k0.lt; replace k9 := k9.step hy; (try clear k9_0 k9_f0 k9_1 k9_f1); have k9_0 := k9.cell 0; have k9_f0 := k9.frozen 0; have k9_1 := k9.cell 1; have k9_f1 := k9.frozen 1; simp only [List.set_cons_zero, List.set_cons_succ, List.getElem?_cons_zero, List.getElem?_cons_succ] at k9_0 k9_1; (try clear lt_k9); have lt_k9 := k9.lt; replace k1 := k1.step hy; (try clear k1_0 k1_f0 k1_1 k1_f1); have k1_0 := k1.cell 0; have k1_f0 := k1.frozen 0; have k1_1 := k1.cell 1; have k1_f1 := k1.frozen 1; simp only [List.set_cons_zero, List.set_cons_succ, List.getElem?_cons_zero, List.getElem?_cons_succ] at k1_0 k1_1; (try clear lt_k1); have lt_k1 := k1.lt
      replace hb0 : Below w.heap.size w z5 := hb0.step hy
      replace rA := rA.step hy
      replace rB := rB.step hy
      replace rC := rC.step hy
      replace rD := rD.step hy
      replace r1 := r1.step hy
      replace raa := raa.step hy
      replace rba := rba.step hy
      clear hy
      have ka_0 := ka.cell 0; have ka_f0 := ka.frozen 0; have ka_1 := ka.cell 1; have ka_f1 := ka.frozen 1; simp only [List.set_cons_zero, List.set_cons_succ, List.getElem?_cons_zero, List.getElem?_cons_succ] at ka_0 ka_1; have lt_ka := ka.lt
      go_wp2_with fail
      refine (hRN _).mono ?_; rintro e y6 ⟨Vb, rfl, sb, hx1⟩
      obtain ⟨Ab, cb, Bb, db, rfl, hdb, rab, rbb⟩ := sb
      replace k0 := k0.step hx1; (try clear k0_0 k0_f0 k0_1 k0_f1); have k0_0 := k0.cell 0; have k0_f0 := k0.frozen 0; have k0_1 := k0.cell 1; have k0_f1 := k0.frozen 1; simp only [List.set_cons_zero, List.set_cons_succ, List.getElem?_cons_zero, List.getElem?_cons_succ] at k0_0 k0_1; (try clear lt_k0); have lt_k0 := k0.lt; replace k9 := k9.step hx1; (try clear k9_0 k9_f0 k9_1 k9_f1); have k9_0 := k9.cell 0; have k9_f0 := k9.frozen 0; have k9_1 := k9.cell 1; have k9_f1 := k9.frozen 1; simp only [List.set_cons_zero, List.set_cons_succ, List.getElem?_cons_zero, List.getElem?_cons_succ] at k9_0 k9_1; (try clear lt_k9); have lt_k9 := k9.lt; replace k1 := k1.step hx1; (try clear k1_0 k1_f0 k1_1 k1_f1); have k1_0 := k1.cell 0; have k1_f0 := k1.frozen 0; have k1_1 := k1.cell 1; have k1_f1 := k1.frozen 1; simp only [List.set_cons_zero, List.set_cons_succ, List.getElem?_cons_zero, List.getElem?_cons_succ] at k1_0 k1_1; (try clear lt_k1); have lt_k1 := k1.lt; replace ka := ka.step hx1; (try clear ka_0 ka_f0 ka_1 ka_f1); have ka_0 := ka.cell 0; have ka_f0 := ka.frozen 0; have ka_1 := ka.cell 1; have ka_f1 := ka.frozen 1; simp only [List.set_cons_zero, List.set_cons_succ, List.getElem?_cons_zero, List.getElem?_cons_succ] at ka_0 ka_1; (try clear lt_ka); have lt_ka := ka.lt
      replace hb0 : Below w.heap.size w y6 := hb0.step hx1
      replace rA := rA.step hx1
      replace rB := rB.step hx1
      replace rC := rC.step hx1
      replace rD := rD.step hx1
      replace r1 := r1.step hx1
      replace raa := raa.step hx1
      replace rba := rba.step hx1
      clear hx1
      go_wp2_with fail
      generalize hV : World.alloc y6 _ = z6
      have hy : Below y6.heap.size y6 z6 := by subst hV; (repeat (first | with_reducible exact Below.refl _ _ | with_reducible assumption | with_reducible refine Below.drew ?_ | with_reducible refine Below.drewN ?_ _ | with_reducible refine Below.alloc1 ?_ _ | with_reducible refine Below.setCell1 ?_ (by first | omega | (simp; done) | (simp; omega)) _ | with_reducible refine Below.step ?_ (by with_reducible assumption)))
      have kb : Bk z6 y6.heap.size 25 (stC Ab ln.length cb Bb fn.length db) := by subst hV; (repeat (first | with_reducible exact Bk.new' _ _ _ _ (by simp; done) | with_reducible assumption | with_reducible refine Bk.alloc ?_ _ | with_reducible refine Bk.drew ?_ | with_reducible refine Bk.drewN ?_ _ | with_reducible refine Bk.step ?_ (by with_reducible assumption) | with_reducible refine Bk.far ?_ (by first | omega | (simp; done) | (simp; omega)) _))
      clear hV
      replace k0 := k0.step hy; (try clear k0_0 k0_f0 k0_1 k0_f1); have k0_0 := k0.cell 0; have k0_f0 := k0.frozen 0; have k0_1 := k0.cell 1; have k0_f1 := k0.frozen 1; simp only [List.set_cons_zero, List.set_cons_succ, List.getElem?_cons_zero, List.getElem?_cons_succ] at k0_0 k0_1; (try clear lt_k0); have lt_k0 := k0.lt; replace k9 := k9.step hy; (try clear k9_0 k9_f0 k9_1 k9_f1); have k9_0 := k9.cell 0; have k9_f0 := k9.frozen 0; have k9_1 := k9.cell 1; have k9_f1 := k9.frozen 1; simp only [List.set_cons_zero, List.set_cons_succ, List.getElem?_cons_zero, List.getElem?_cons_succ] at k9_0 k9_1; (try clear lt_k9); have lt_k9 := k9.lt; replace k1 := k1.step hy; (try clear k1_0 k1_f0 k1_1 k1_f1); have k1_0 := k1.cell 0; have k1_f0 := k1.frozen 0; have k1_1 := k1.cell 1; have k1_f1 := k1.frozen 1; simp only [List.set_cons_zero, List.set_cons_succ, List.getElem?_cons_zero, List.getElem?_cons_succ] at k1_0 k1_1; (try clear lt_k1); have lt_k1 := k1.lt; replace ka := ka.step hy; (try clear ka_0 ka_f0 ka_1 ka_f1); have ka_0 := ka.cell 0; have ka_f0 := ka.frozen 0; have ka_1 := ka.cell 1; have ka_f1 := ka.frozen 1; simp only [List.set_cons_zero, List.set_cons_succ, List.getElem?_cons_zero, List.getElem?_cons_succ] at ka_0 ka_1; (try clear lt_ka); have lt_ka := ka.lt
      replace hb0 : Below w.heap.size w z6 := hb0.step hy
      replace rA := rA.step hy
      replace rB := rB.step hy
      replace rC := rC.step hy
      replace rD := rD.step hy
      replace r1 := r1.step hy
      replace raa := raa.step hy
      replace rba := rba.step hy
      replace rab := rab.step hy
      replace rbb := rbb.step hy
      clear hy
      have kb_0 := kb.cell 0; have kb_f0 := kb.frozen 0; have kb_1 := kb.cell 1; have kb_f1 := kb.frozen 1; simp only [List.set_cons_zero, List.set_cons_succ, List.getElem?_cons_zero, List.getElem?_cons_succ] at kb_0 kb_1; have lt_kb := kb.lt
      clear hN hRN
      go_wp2_with fail
      refine wp_region_m [(1, only (.int .i64 ck)), (3, only (.int .i64 ck)), (17, only (.int .i64 hs.length)), (19, only (.int .i64 hs.length)), (24, RowAt hs.length (ints hs)), (26, RowAt hs.length (ints hs)), (27, only (.bool true)), (32, WithAt 0 l'.length B' f'.length d' (cls l')), (33, only (.bool sm)), (36, only (.bool sm)), (41, WithAt 0 ln.length Ba fn.length da (cls ln)), (43, only (.bool true)), (51, only (.bool true))] (by kernel_rfl) (by kernel_rfl) (by kernel_rfl) (by kernel_rfl) (sts_cons (sts_only _) (sts_cons (sts_only _) (sts_cons (sts_only _) (sts_cons (sts_only _) (sts_cons (sts_row _ _) (sts_cons (sts_row _ _) (sts_cons (sts_only _) (sts_cons (sts_with _ _ _ _ _ _) (sts_cons (sts_only _) (sts_cons (sts_only _) (sts_cons (sts_with _ _ _ _ _ _) (sts_cons (sts_only _) (sts_cons (sts_only _) sts_nil))))))))))))) (fun kq => ?_); (try dsimp only [List.append])
      (repeat (refine wpM_via (by kernel_rfl) ?_; go_big_quiet_step (fail); refine wpQuiet_nil ?_))
      (refine wpM_only _ (.int .i64 ck) (by kernel_rfl) (by kernel_rfl) rfl (later_some _) ?_ ?_; (focus (intro x hx hk; obtain ⟨px, rfl⟩ := hx; go_simp; (first | with_reducible refine mUpon_enter ?_ | with_reducible refine mUpon_value ?_); go_at_call 22; exact (hCp A1 c1 _ (r1.step (below_regrown z6 _ _)) (rB.step (below_regrown z6 _ _))).mo)); intro K hK; go_big_quiet_op; refine hK _ ?_; clear hK K)
      (repeat (refine wpM_via (by kernel_rfl) ?_; go_big_quiet_step (fail); refine wpQuiet_nil ?_))
      (refine wpM_only _ (.int .i64 ck) (by kernel_rfl) (by kernel_rfl) rfl (later_some _) ?_ ?_; (focus (intro x hx hk; obtain ⟨px, rfl⟩ := hx; go_simp; (first | with_reducible refine mUpon_enter ?_ | with_reducible refine mUpon_value ?_); go_at_call 23; exact (hCr _ (rA.step (below_regrown z6 _ _)) (rB.step (below_regrown z6 _ _))).mo)); intro K hK; go_big_quiet_op; refine hK _ ?_; clear hK K)
      (repeat (refine wpM_via (by kernel_rfl) ?_; go_big_quiet_step (fail); refine wpQuiet_nil ?_))
      (refine wpM_only _ (.int .i64 hs.length) (by kernel_rfl) (by kernel_rfl) rfl (later_some _) ?_ ?_; (focus (intro x hx hk; obtain ⟨px, rfl⟩ := hx; go_simp; (first | with_reducible refine mUpon_enter ?_ | with_reducible refine mUpon_value ?_); go_at_call 24; exact (hUp _ _ ⟨A1, c1, B, d, rfl, hd, (r1.step (below_regrown z6 _ _)), (rB.step (below_regrown z6 _ _))⟩).mo)); intro K hK; go_big_quiet_op; refine hK _ ?_; clear hK K)
      (repeat (refine wpM_via (by kernel_rfl) ?_; go_big_quiet_step (fail); refine wpQuiet_nil ?_))
      (refine wpM_only _ (.int .i64 hs.length) (by kernel_rfl) (by kernel_rfl) rfl (later_some _) ?_ ?_; (focus (intro x hx hk; obtain ⟨px, rfl⟩ := hx; go_simp; (first | with_reducible refine mUpon_enter ?_ | with_reducible refine mUpon_value ?_); go_at_call 25; exact (hUr _ (rA.step (below_regrown z6 _ _)) (rB.step (below_regrown z6 _ _))).mo)); intro K hK; go_big_quiet_op; refine hK _ ?_; clear hK K)
      (repeat (refine wpM_via (by kernel_rfl) ?_; go_big_quiet_step (fail); refine wpQuiet_nil ?_))
      (refine wpM_spec _ (RowAt hs.length (ints hs)) (by kernel_rfl) (by kernel_rfl) rfl (later_some _) ?_ ?_; (focus (intro x hx hk; obtain ⟨px, rfl⟩ := hx; go_simp; (first | with_reducible refine mUpon_enter ?_ | with_reducible refine mUpon_value ?_); go_at_call 27; exact hHp _ _ ⟨A1, c1, B, d, rfl, hd, (r1.step (below_regrown z6 _ _)), (rB.step (below_regrown z6 _ _))⟩)); intro v hv K hK; obtain ⟨H1, h1, rfl⟩ := hv; go_big_quiet_op; refine hK _ ?_; clear hK K)
      (repeat (refine wpM_via (by kernel_rfl) ?_; go_big_quiet_step (fail); refine wpQuiet_nil ?_))
      (refine wpM_spec _ (RowAt hs.length (ints hs)) (by kernel_rfl) (by kernel_rfl) rfl (later_some _) ?_ ?_; (focus (intro x hx hk; obtain ⟨px, rfl⟩ := hx; go_simp; (first | with_reducible refine mUpon_enter ?_ | with_reducible refine mUpon_value ?_); go_at_call 28; exact hHr _ (rA.step (below_regrown z6 _ _)) (rB.step (below_regrown z6 _ _)))); intro v hv K hK; obtain ⟨H2, h2, rfl⟩ := hv; go_big_quiet_op; refine hK _ ?_; clear hK K)
      (repeat (refine wpM_via (by kernel_rfl) ?_; go_big_quiet_step (fail); refine wpQuiet_nil ?_))
      (refine wpM_only _ (.bool true) (by kernel_rfl) (by kernel_rfl) rfl (later_some _) ?_ ?_; (focus (intro x hx hk; obtain ⟨px, rfl⟩ := hx; go_simp; (first | with_reducible refine mUpon_enter ?_ | with_reducible refine mUpon_value ?_); go_at_call 26; exact (ints_self H1 H2 h1 h2 hs _ hlen (row_of (hk.2.1 (by kernel_rfl))) (row_of (hk.1 (by kernel_rfl)))).mod)); intro K hK; go_big_quiet_op; refine hK _ ?_; clear hK K)
      (repeat (refine wpM_via (by kernel_rfl) ?_; go_big_quiet_step (fail); refine wpQuiet_nil ?_))
      (refine wpM_spec _ (WithAt 0 l'.length B' f'.length d' (cls l')) (by kernel_rfl) (by kernel_rfl) rfl (later_some _) ?_ ?_; (focus (intro x hx hk; obtain ⟨px, rfl⟩ := hx; go_simp; (first | with_reducible refine mUpon_enter ?_ | with_reducible refine mUpon_value ?_); go_at_call 9; exact back_m (own_fn_any A' B' c' d' l' f' _ hl2 hf2 hd' (rC.step (below_regrown z6 _ _)) (rD.step (below_regrown z6 _ _))))); intro v hv K hK; obtain ⟨E1, e1, rfl⟩ := hv; go_big_quiet_op; refine hK _ ?_; clear hK K)
      (repeat (refine wpM_via (by kernel_rfl) ?_; go_big_quiet_step (fail); refine wpQuiet_nil ?_))
      (refine wpM_only _ (.bool sm) (by kernel_rfl) (by kernel_rfl) rfl (later_some _) ?_ ?_; (focus (intro x hx hk; obtain ⟨px, rfl⟩ := hx; go_simp; (first | with_reducible refine mUpon_enter ?_ | with_reducible refine mUpon_value ?_); go_at_call 29; exact (hSp _ _ _ ⟨A1, c1, B, d, rfl, hd, (r1.step (below_regrown z6 _ _)), (rB.step (below_regrown z6 _ _))⟩ ⟨E1, e1, B', d', rfl, hd', (with_of (lo := 0) (hk.1 (by kernel_rfl))).1, (rD.step (below_regrown z6 _ _))⟩).mo)); intro K hK; go_big_quiet_op; refine hK _ ?_; clear hK K)
      (repeat (refine wpM_via (by kernel_rfl) ?_; go_big_quiet_step (fail); refine wpQuiet_nil ?_))
      (refine wpM_only _ (.bool sm) (by kernel_rfl) (by kernel_rfl) rfl (later_some _) ?_ ?_; (focus (intro x hx hk; obtain ⟨px, rfl⟩ := hx; go_simp; (first | with_reducible refine mUpon_enter ?_ | with_reducible refine mUpon_value ?_); go_at_call 16; exact (hSr _ (rA.step (below_regrown z6 _ _)) (rB.step (below_regrown z6 _ _)) (rC.step (below_regrown z6 _ _)) (rD.step (below_regrown z6 _ _))).mo)); intro K hK; go_big_quiet_op; refine hK _ ?_; clear hK K)
      (repeat (refine wpM_via (by kernel_rfl) ?_; go_big_quiet_step (fail); refine wpQuiet_nil ?_))
      (refine wpM_spec _ (WithAt 0 ln.length Ba fn.length da (cls ln)) (by kernel_rfl) (by kernel_rfl) rfl (later_some _) ?_ ?_; (focus (intro x hx hk; obtain ⟨px, rfl⟩ := hx; go_simp; (first | with_reducible refine mUpon_enter ?_ | with_reducible refine mUpon_value ?_); go_at_call 17; exact back_m (back_fn_any Aa Ba ca da ln fn _ n3 n4 hda (raa.step (below_regrown z6 _ _)) (rba.step (below_regrown z6 _ _))))); intro v hv K hK; obtain ⟨E2, e2, rfl⟩ := hv; go_big_quiet_op; refine hK _ ?_; clear hK K)
      (repeat (refine wpM_via (by kernel_rfl) ?_; go_big_quiet_step (fail); refine wpQuiet_nil ?_))
      (refine wpM_only _ (.bool true) (by kernel_rfl) (by kernel_rfl) rfl (later_some _) ?_ ?_; (focus (intro x hx hk; obtain ⟨px, rfl⟩ := hx; go_simp; (first | with_reducible refine mUpon_enter ?_ | with_reducible refine mUpon_value ?_); go_at_call 16; exact (rSame_self E2 Ba Ab Bb e2 da cb db ln fn _ n3 n4 (with_of (lo := 0) (hk.1 (by kernel_rfl))).1 (rba.step (below_regrown z6 _ _)) (rab.step (below_regrown z6 _ _)) (rbb.step (below_regrown z6 _ _))).mo)); intro K hK; go_big_quiet_op; refine hK _ ?_; clear hK K)
      (repeat (refine wpM_via (by kernel_rfl) ?_; go_big_quiet_step (fail); refine wpQuiet_nil ?_))
      (refine wpM_only _ (.bool true) (by kernel_rfl) (by kernel_rfl) rfl (later_some _) ?_ ?_; (focus (intro x hx hk; obtain ⟨px, rfl⟩ := hx; go_simp; (first | with_reducible refine mUpon_enter ?_ | with_reducible refine mUpon_value ?_); go_at_call 8; exact (awake03 _).mo)); intro K hK; go_big_quiet_op; refine hK _ ?_; clear hK K)
      (repeat (refine wpM_via (by kernel_rfl) ?_; go_big_quiet_step (fail); refine wpQuiet_nil ?_))
      refine wpM_nil ?_; intro wq hwq hfq; have hbq := below_of_class hwq; clear hwq kq; (try dsimp only [List.drop])
      go_wp2
      go_ret
      exact ⟨rfl, hb0.step hbq⟩
    · have hfew2 : ∀ W, Calls Try.prog 7 #[stV A' l'.length c' B' f'.length d'] W fun e w' => e = .returned (.bool false) ∧ Below W.heap.size W w' := fun W => (hfew' W).lit (by rw [Value.bool.injEq, Bool.and_eq_false_iff]; by_cases h1 : l'.length ≤ 70 <;> by_cases h2 : f'.length ≤ 70 <;> simp_all)
      clear hfew'
      go_enter Try.func4, Try.ntmps4
      go_wp2_with fail
      generalize hV : World.alloc (World.alloc w _) _ = w1
      have hb0 : Below w.heap.size w w1 := by subst hV; (repeat (first | with_reducible exact Below.refl _ _ | with_reducible assumption | with_reducible refine Below.drew ?_ | with_reducible refine Below.drewN ?_ _ | with_reducible refine Below.alloc1 ?_ _ | with_reducible refine Below.setCell1 ?_ (by first | omega | (simp; done) | (simp; omega)) _ | with_reducible refine Below.step ?_ (by with_reducible assumption)))
      have k9 : Bk w1 (w.heap.size + 1) 25 (stC A' l'.length c' B' f'.length d') := by subst hV; (repeat (first | with_reducible exact Bk.new' _ _ _ _ (by simp; done) | with_reducible assumption | with_reducible refine Bk.alloc ?_ _ | with_reducible refine Bk.drew ?_ | with_reducible refine Bk.drewN ?_ _ | with_reducible refine Bk.step ?_ (by with_reducible assumption) | with_reducible refine Bk.far ?_ (by first | omega | (simp; done) | (simp; omega)) _))
      clear hV
      refine (hfew _).mono ?_; rintro e y0 ⟨rfl, hx1⟩
      replace k9 := k9.step hx1
      have k9_0 := k9.cell 0; have k9_f0 := k9.frozen 0; have k9_1 := k9.cell 1; have k9_f1 := k9.frozen 1; simp only [List.set_cons_zero, List.set_cons_succ, List.getElem?_cons_zero, List.getElem?_cons_succ] at k9_0 k9_1; have lt_k9 := k9.lt
      go_wp2_with fail
      refine (hfew2 _).mono ?_; rintro e y1 ⟨rfl, hx2⟩
      go_wp2_with fail
      refine (awake03 _).mono ?_; rintro e y2 ⟨rfl, hx3⟩
      go_wp2
      go_ret
      exact ⟨rfl, by (repeat (first | with_reducible exact Below.refl _ _ | with_reducible assumption | with_reducible refine Below.drew ?_ | with_reducible refine Below.drewN ?_ _ | with_reducible refine Below.alloc1 ?_ _ | with_reducible refine Below.setCell1 ?_ (by first | omega | (simp; done) | (simp; omega)) _ | with_reducible refine Below.step ?_ (by with_reducible assumption)))⟩
  · have hfew2 : ∀ W, Calls Try.prog 7 #[stV A l.length c B f.length d] W fun e w' => e = .returned (.bool false) ∧ Below W.heap.size W w' := fun W => (hfew W).lit (by rw [Value.bool.injEq, Bool.and_eq_false_iff]; by_cases h1 : l.length ≤ 70 <;> by_cases h2 : f.length ≤ 70 <;> simp_all)
    clear hfew hfew'
    go_enter Try.func4, Try.ntmps4
    go_wp2_with fail
    refine (hfew2 _).mono ?_; rintro e y0 ⟨rfl, hx1⟩
    go_wp2_with fail
    refine (awake03 _).mono ?_; rintro e y1 ⟨rfl, hx2⟩
    go_wp2
    go_ret
    exact ⟨rfl, by (repeat (first | with_reducible exact Below.refl _ _ | with_reducible assumption | with_reducible refine Below.drew ?_ | with_reducible refine Below.drewN ?_ _ | with_reducible refine Below.alloc1 ?_ _ | with_reducible refine Below.setCell1 ?_ (by first | omega | (simp; done) | (simp; omega)) _ | with_reducible refine Below.step ?_ (by with_reducible assumption)))⟩
end Go.Proofs.Ytnmpighdkdffbaa
