/- The walk of PoolChanges. -/
import Derived.Test.YtnmpighdkdffbaaAwake03
import Derived.Test.YtnmpighdkdffbaaRef03i
namespace Go.Proofs.Ytnmpighdkdffbaa
open Go.RowKit Go.Sort
set_option linter.unusedSimpArgs false
set_option linter.unusedVariables false

theorem pTake_len (l : List Cl) (f : List Int) (v : Int) : (pTake l f v).1.1.length = l.length ∧ (pTake l f v).1.2.length ≤ f.length := by
  unfold pTake
  split
  · exact ⟨rfl, Nat.le_refl _⟩
  · split
    · exact ⟨rfl, Nat.le_refl _⟩
    · simp [List.length_set]
theorem give_len (l : List Cl) (f : List Int) (h : Int) : (pChange giveD l f h).1.1.length = l.length ∧ (pChange giveD l f h).1.2.length ≤ f.length + 1 := by
  unfold pChange
  split
  · exact ⟨rfl, Nat.le_succ _⟩
  · split
    · exact ⟨rfl, Nat.le_succ _⟩
    · unfold giveD; simp only [List.length_set]; split <;> simp
theorem set_len (v : Int) (l : List Cl) (f : List Int) (h : Int) : (pChange (setD v) l f h).1.1.length = l.length ∧ (pChange (setD v) l f h).1.2.length ≤ f.length := by
  unfold pChange
  split
  · exact ⟨rfl, Nat.le_refl _⟩
  · split
    · exact ⟨rfl, Nat.le_refl _⟩
    · unfold setD; simp
theorem back_m {args : Array Value} {g : FuncId} {w : World} {n : Nat} {B : Option Addr} {m d : Nat} {xs : List Value} (h : Calls Try.prog g args w fun e w' => ∃ A' c', e = .returned (stV A' n c' B m d) ∧ Rd w' w'.heap.size A' xs ∧ Below w.heap.size w w') : Calls Try.prog g args w (mPost (WithAt 0 n B m d xs) w) :=
  h.mono fun _ _ ⟨A, c, he, hr, hb⟩ => ⟨_, he, ⟨A, c, rfl⟩, ⟨A, c, rfl, hr, fun _ _ => Nat.zero_le _⟩, hb⟩
theorem rSame_self (A B A' B' : Option Addr) (c d c' d' : Nat) (l : List Cl) (f : List Int) (w : World) (hl : l.length ≤ 1000) (hf : f.length ≤ 1000) (ha : Rd w w.heap.size A (cls l)) (hb : Rd w w.heap.size B (ints f)) (ha' : Rd w w.heap.size A' (cls l)) (hb' : Rd w w.heap.size B' (ints f)) :
    Calls Try.prog 16 #[stV A l.length c B f.length d, stV A' l.length c' B' f.length d'] w fun e w' => e = .returned (.bool true) ∧ Below w.heap.size w w' :=
  (rSame_any A B A' B' c d c' d' l l f f w hl hf ha hb ha' hb').lit (by simp)

set_option maxRecDepth 100000 in
set_option maxHeartbeats 16000000 in
theorem PoolChanges_walk (A B : Option Addr) (c d : Nat) (l : List Cl) (f : List Int) (h v : Int) (w : World) (hl : l.length ≤ maxLen) (hf : f.length ≤ maxLen) (hd : f.length ≤ d) (hh : -9223372036854775808 ≤ h ∧ h ≤ 9223372036854775807) (ha : Rd w w.heap.size A (cls l)) (hb : Rd w w.heap.size B (ints f)) :
    Calls Try.prog 3 #[stV A l.length c B f.length d, .int .i64 h, .int .i64 v] w fun e w' => e = .returned (.bool true) ∧ Below w.heap.size w w' := by
  have hfew := fun W => few_any A B c d l.length f.length W hl hf
  by_cases hs : l.length ≤ 70 ∧ f.length ≤ 70
  · rw [decide_eq_true hs.1, decide_eq_true hs.2] at hfew
    have hl1 : l.length ≤ 1000 := by omega
    have hf1 : f.length ≤ 900 := by omega
    have hf2 : f.length ≤ 1000 := by omega
    have hbk0 := hb
    clear hs hl hf
    go_enter Try.func3, Try.ntmps3
    go_wp2_with fail
    generalize hV : World.alloc w _ = w1
    have hb0 : Below w.heap.size w w1 := by subst hV; (repeat (first | with_reducible exact Below.refl _ _ | with_reducible assumption | with_reducible refine Below.drew ?_ | with_reducible refine Below.drewN ?_ _ | with_reducible refine Below.alloc1 ?_ _ | with_reducible refine Below.setCell1 ?_ (by first | omega | (simp; done) | (simp; omega)) _ | with_reducible refine Below.step ?_ (by with_reducible assumption)))
    have k0 : Bk w1 w.heap.size 25 (stC A l.length c B f.length d) := by subst hV; (repeat (first | with_reducible exact Bk.new' _ _ _ _ (by simp; done) | with_reducible assumption | with_reducible refine Bk.alloc ?_ _ | with_reducible refine Bk.drew ?_ | with_reducible refine Bk.drewN ?_ _ | with_reducible refine Bk.step ?_ (by with_reducible assumption) | with_reducible refine Bk.far ?_ (by first | omega | (simp; done) | (simp; omega)) _))
    clear hV
    refine (hfew _).mono ?_; rintro e y0 ⟨rfl, hx1⟩
    clear hfew
    replace k0 := k0.step hx1
    replace hb0 : Below w.heap.size w y0 := hb0.step hx1
    have rA := (ha.below hb0).more hb0.size
    have rB := (hb.below hb0).more hb0.size
    have k0_0 := k0.cell 0; have k0_f0 := k0.frozen 0; have k0_1 := k0.cell 1; have k0_f1 := k0.frozen 1; simp only [List.set_cons_zero, List.set_cons_succ, List.getElem?_cons_zero, List.getElem?_cons_succ] at k0_0 k0_1; have lt_k0 := k0.lt
    clear hx1
    go_wp2_with fail
    refine (own_fn_any A B c d l f _ hl1 hf2 hd rA rB).mono ?_; rintro e y1 ⟨A1, c1, rfl, r1, hx1⟩
    replace k0 := k0.step hx1; (try clear k0_0 k0_f0 k0_1 k0_f1); have k0_0 := k0.cell 0; have k0_f0 := k0.frozen 0; have k0_1 := k0.cell 1; have k0_f1 := k0.frozen 1; simp only [List.set_cons_zero, List.set_cons_succ, List.getElem?_cons_zero, List.getElem?_cons_succ] at k0_0 k0_1; (try clear lt_k0); have lt_k0 := k0.lt
    replace hb0 : Below w.heap.size w y1 := hb0.step hx1
    replace rA := rA.step hx1; replace rB := rB.step hx1
    clear hx1
    go_wp2_with fail
    generalize hV : World.alloc y1 _ = z1
    have hy : Below y1.heap.size y1 z1 := by subst hV; (repeat (first | with_reducible exact Below.refl _ _ | with_reducible assumption | with_reducible refine Below.drew ?_ | with_reducible refine Below.drewN ?_ _ | with_reducible refine Below.alloc1 ?_ _ | with_reducible refine Below.setCell1 ?_ (by first | omega | (simp; done) | (simp; omega)) _ | with_reducible refine Below.step ?_ (by with_reducible assumption)))
    have k1 : Bk z1 y1.heap.size 30 (stC A1 l.length c1 B f.length d) := by subst hV; (repeat (first | with_reducible exact Bk.new' _ _ _ _ (by simp; done) | with_reducible assumption | with_reducible refine Bk.alloc ?_ _ | with_reducible refine Bk.drew ?_ | with_reducible refine Bk.drewN ?_ _ | with_reducible refine Bk.step ?_ (by with_reducible assumption) | with_reducible refine Bk.far ?_ (by first | omega | (simp; done) | (simp; omega)) _))
    clear hV
    replace k0 := k0.step hy; (try clear k0_0 k0_f0 k0_1 k0_f1); have k0_0 := k0.cell 0; have k0_f0 := k0.frozen 0; have k0_1 := k0.cell 1; have k0_f1 := k0.frozen 1; simp only [List.set_cons_zero, List.set_cons_succ, List.getElem?_cons_zero, List.getElem?_cons_succ] at k0_0 k0_1; (try clear lt_k0); have lt_k0 := k0.lt
    replace hb0 : Below w.heap.size w z1 := hb0.step hy
    replace rA := rA.step hy; replace rB := rB.step hy; replace r1 := r1.step hy
    have k1_0 := k1.cell 0; have k1_f0 := k1.frozen 0; have k1_1 := k1.cell 1; have k1_f1 := k1.frozen 1; simp only [List.set_cons_zero, List.set_cons_succ, List.getElem?_cons_zero, List.getElem?_cons_succ] at k1_0 k1_1; have lt_k1 := k1.lt
    clear hy

    have HLP := hide (pTake_len l f v)
    go_wp2_with fail
    refine (pool_Take_any (stV A1 l.length c1 B f.length d) l f v _ hl1 hf2 ⟨A1, c1, B, d, rfl, hd, r1, rB⟩).mono ?_; rintro e y2 ⟨Va, rfl, sa, hx1⟩
    obtain ⟨Aa, ca, Ba, da, rfl, hda, raa, rba, _, _⟩ := sa
    replace k0 := k0.step hx1; (try clear k0_0 k0_f0 k0_1 k0_f1); have k0_0 := k0.cell 0; have k0_f0 := k0.frozen 0; have k0_1 := k0.cell 1; have k0_f1 := k0.frozen 1; simp only [List.set_cons_zero, List.set_cons_succ, List.getElem?_cons_zero, List.getElem?_cons_succ] at k0_0 k0_1; (try clear lt_k0); have lt_k0 := k0.lt; replace k1 := k1.step hx1; (try clear k1_0 k1_f0 k1_1 k1_f1); have k1_0 := k1.cell 0; have k1_f0 := k1.frozen 0; have k1_1 := k1.cell 1; have k1_f1 := k1.frozen 1; simp only [List.set_cons_zero, List.set_cons_succ, List.getElem?_cons_zero, List.getElem?_cons_succ] at k1_0 k1_1; (try clear lt_k1); have lt_k1 := k1.lt
    replace rA := rA.step hx1
    replace rB := rB.step hx1
    replace r1 := r1.step hx1
    replace hb0 : Below w.heap.size w y2 := hb0.step hx1
    clear hx1
    go_wp2_with fail
    generalize hV : World.alloc y2 _ = z2
    have hy : Below y2.heap.size y2 z2 := by subst hV; (repeat (first | with_reducible exact Below.refl _ _ | with_reducible assumption | with_reducible refine Below.drew ?_ | with_reducible refine Below.drewN ?_ _ | with_reducible refine Below.alloc1 ?_ _ | with_reducible refine Below.setCell1 ?_ (by first | omega | (simp; done) | (simp; omega)) _ | with_reducible refine Below.step ?_ (by with_reducible assumption)))
    have ka : Bk z2 y2.heap.size 30 (stC Aa (pTake l f v).1.1.length ca Ba (pTake l f v).1.2.length da) := by subst hV; (repeat (first | with_reducible exact Bk.new' _ _ _ _ (by simp; done) | with_reducible assumption | with_reducible refine Bk.alloc ?_ _ | with_reducible refine Bk.drew ?_ | with_reducible refine Bk.drewN ?_ _ | with_reducible refine Bk.step ?_ (by with_reducible assumption) | with_reducible refine Bk.far ?_ (by first | omega | (simp; done) | (simp; omega)) _))
    clear hV
    replace k0 := k0.step hy; (try clear k0_0 k0_f0 k0_1 k0_f1); have k0_0 := k0.cell 0; have k0_f0 := k0.frozen 0; have k0_1 := k0.cell 1; have k0_f1 := k0.frozen 1; simp only [List.set_cons_zero, List.set_cons_succ, List.getElem?_cons_zero, List.getElem?_cons_succ] at k0_0 k0_1; (try clear lt_k0); have lt_k0 := k0.lt; replace k1 := k1.step hy; (try clear k1_0 k1_f0 k1_1 k1_f1); have k1_0 := k1.cell 0; have k1_f0 := k1.frozen 0; have k1_1 := k1.cell 1; have k1_f1 := k1.frozen 1; simp only [List.set_cons_zero, List.set_cons_succ, List.getElem?_cons_zero, List.getElem?_cons_succ] at k1_0 k1_1; (try clear lt_k1); have lt_k1 := k1.lt
    replace rA := rA.step hy
    replace rB := rB.step hy
    replace r1 := r1.step hy
    replace raa := raa.step hy
    replace rba := rba.step hy
    replace hb0 : Below w.heap.size w z2 := hb0.step hy
    have ka_0 := ka.cell 0; have ka_f0 := ka.frozen 0; have ka_1 := ka.cell 1; have ka_f1 := ka.frozen 1; simp only [List.set_cons_zero, List.set_cons_succ, List.getElem?_cons_zero, List.getElem?_cons_succ] at ka_0 ka_1; have lt_ka := ka.lt
    clear hy
    go_wp2_with fail
    refine (rTake_any A B c d l f v _ hl1 hf2 hd rA rB).mono ?_; rintro e y3 ⟨Vb, rfl, sb, hx1⟩
    obtain ⟨Ab, cb, Bb, db, rfl, hdb, rab, rbb⟩ := sb
    replace k0 := k0.step hx1; (try clear k0_0 k0_f0 k0_1 k0_f1); have k0_0 := k0.cell 0; have k0_f0 := k0.frozen 0; have k0_1 := k0.cell 1; have k0_f1 := k0.frozen 1; simp only [List.set_cons_zero, List.set_cons_succ, List.getElem?_cons_zero, List.getElem?_cons_succ] at k0_0 k0_1; (try clear lt_k0); have lt_k0 := k0.lt; replace k1 := k1.step hx1; (try clear k1_0 k1_f0 k1_1 k1_f1); have k1_0 := k1.cell 0; have k1_f0 := k1.frozen 0; have k1_1 := k1.cell 1; have k1_f1 := k1.frozen 1; simp only [List.set_cons_zero, List.set_cons_succ, List.getElem?_cons_zero, List.getElem?_cons_succ] at k1_0 k1_1; (try clear lt_k1); have lt_k1 := k1.lt; replace ka := ka.step hx1; (try clear ka_0 ka_f0 ka_1 ka_f1); have ka_0 := ka.cell 0; have ka_f0 := ka.frozen 0; have ka_1 := ka.cell 1; have ka_f1 := ka.frozen 1; simp only [List.set_cons_zero, List.set_cons_succ, List.getElem?_cons_zero, List.getElem?_cons_succ] at ka_0 ka_1; (try clear lt_ka); have lt_ka := ka.lt
    replace rA := rA.step hx1
    replace rB := rB.step hx1
    replace r1 := r1.step hx1
    replace raa := raa.step hx1
    replace rba := rba.step hx1
    replace hb0 : Below w.heap.size w y3 := hb0.step hx1
    clear hx1
    generalize pTake l f v = rP at *
    go_wp2_with fail
    generalize hV : World.alloc y3 _ = z3
    have hy : Below y3.heap.size y3 z3 := by subst hV; (repeat (first | with_reducible exact Below.refl _ _ | with_reducible assumption | with_reducible refine Below.drew ?_ | with_reducible refine Below.drewN ?_ _ | with_reducible refine Below.alloc1 ?_ _ | with_reducible refine Below.setCell1 ?_ (by first | omega | (simp; done) | (simp; omega)) _ | with_reducible refine Below.step ?_ (by with_reducible assumption)))
    have kb : Bk z3 y3.heap.size 25 (stC Ab rP.1.1.length cb Bb rP.1.2.length db) := by subst hV; (repeat (first | with_reducible exact Bk.new' _ _ _ _ (by simp; done) | with_reducible assumption | with_reducible refine Bk.alloc ?_ _ | with_reducible refine Bk.drew ?_ | with_reducible refine Bk.drewN ?_ _ | with_reducible refine Bk.step ?_ (by with_reducible assumption) | with_reducible refine Bk.far ?_ (by first | omega | (simp; done) | (simp; omega)) _))
    clear hV
    replace k0 := k0.step hy; (try clear k0_0 k0_f0 k0_1 k0_f1); have k0_0 := k0.cell 0; have k0_f0 := k0.frozen 0; have k0_1 := k0.cell 1; have k0_f1 := k0.frozen 1; simp only [List.set_cons_zero, List.set_cons_succ, List.getElem?_cons_zero, List.getElem?_cons_succ] at k0_0 k0_1; (try clear lt_k0); have lt_k0 := k0.lt; replace k1 := k1.step hy; (try clear k1_0 k1_f0 k1_1 k1_f1); have k1_0 := k1.cell 0; have k1_f0 := k1.frozen 0; have k1_1 := k1.cell 1; have k1_f1 := k1.frozen 1; simp only [List.set_cons_zero, List.set_cons_succ, List.getElem?_cons_zero, List.getElem?_cons_succ] at k1_0 k1_1; (try clear lt_k1); have lt_k1 := k1.lt; replace ka := ka.step hy; (try clear ka_0 ka_f0 ka_1 ka_f1); have ka_0 := ka.cell 0; have ka_f0 := ka.frozen 0; have ka_1 := ka.cell 1; have ka_f1 := ka.frozen 1; simp only [List.set_cons_zero, List.set_cons_succ, List.getElem?_cons_zero, List.getElem?_cons_succ] at ka_0 ka_1; (try clear lt_ka); have lt_ka := ka.lt
    replace rA := rA.step hy
    replace rB := rB.step hy
    replace r1 := r1.step hy
    replace raa := raa.step hy
    replace rba := rba.step hy
    replace rab := rab.step hy
    replace rbb := rbb.step hy
    replace hb0 : Below w.heap.size w z3 := hb0.step hy
    have kb_0 := kb.cell 0; have kb_f0 := kb.frozen 0; have kb_1 := kb.cell 1; have kb_f1 := kb.frozen 1; simp only [List.set_cons_zero, List.set_cons_succ, List.getElem?_cons_zero, List.getElem?_cons_succ] at kb_0 kb_1; have lt_kb := kb.lt
    clear hy
    have HLQ := hide (give_len l f h)
    go_wp2_with fail
    refine (pool_Give_any (stV A1 l.length c1 B f.length d) l f h _ hl1 hf2 hh ⟨A1, c1, B, d, rfl, hd, r1, rB⟩).mono ?_; rintro e y4 ⟨Vc, rfl, sc, hx1⟩
    obtain ⟨Ac, cc, Bc, dc, rfl, hdc, rac, rbc, _, _⟩ := sc
    replace k0 := k0.step hx1; (try clear k0_0 k0_f0 k0_1 k0_f1); have k0_0 := k0.cell 0; have k0_f0 := k0.frozen 0; have k0_1 := k0.cell 1; have k0_f1 := k0.frozen 1; simp only [List.set_cons_zero, List.set_cons_succ, List.getElem?_cons_zero, List.getElem?_cons_succ] at k0_0 k0_1; (try clear lt_k0); have lt_k0 := k0.lt; replace k1 := k1.step hx1; (try clear k1_0 k1_f0 k1_1 k1_f1); have k1_0 := k1.cell 0; have k1_f0 := k1.frozen 0; have k1_1 := k1.cell 1; have k1_f1 := k1.frozen 1; simp only [List.set_cons_zero, List.set_cons_succ, List.getElem?_cons_zero, List.getElem?_cons_succ] at k1_0 k1_1; (try clear lt_k1); have lt_k1 := k1.lt; replace ka := ka.step hx1; (try clear ka_0 ka_f0 ka_1 ka_f1); have ka_0 := ka.cell 0; have ka_f0 := ka.frozen 0; have ka_1 := ka.cell 1; have ka_f1 := ka.frozen 1; simp only [List.set_cons_zero, List.set_cons_succ, List.getElem?_cons_zero, List.getElem?_cons_succ] at ka_0 ka_1; (try clear lt_ka); have lt_ka := ka.lt; replace kb := kb.step hx1; (try clear kb_0 kb_f0 kb_1 kb_f1); have kb_0 := kb.cell 0; have kb_f0 := kb.frozen 0; have kb_1 := kb.cell 1; have kb_f1 := kb.frozen 1; simp only [List.set_cons_zero, List.set_cons_succ, List.getElem?_cons_zero, List.getElem?_cons_succ] at kb_0 kb_1; (try clear lt_kb); have lt_kb := kb.lt
    replace rA := rA.step hx1
    replace rB := rB.step hx1
    replace r1 := r1.step hx1
    replace raa := raa.step hx1
    replace rba := rba.step hx1
    replace rab := rab.step hx1
    replace rbb := rbb.step hx1
    replace hb0 : Below w.heap.size w y4 := hb0.step hx1
    clear hx1
    go_wp2_with fail
    generalize hV : World.alloc y4 _ = z4
    have hy : Below y4.heap.size y4 z4 := by subst hV; (repeat (first | with_reducible exact Below.refl _ _ | with_reducible assumption | with_reducible refine Below.drew ?_ | with_reducible refine Below.drewN ?_ _ | with_reducible refine Below.alloc1 ?_ _ | with_reducible refine Below.setCell1 ?_ (by first | omega | (simp; done) | (simp; omega)) _ | with_reducible refine Below.step ?_ (by with_reducible assumption)))
    have kc : Bk z4 y4.heap.size 30 (stC Ac (pChange giveD l f h).1.1.length cc Bc (pChange giveD l f h).1.2.length dc) := by subst hV; (repeat (first | with_reducible exact Bk.new' _ _ _ _ (by simp; done) | with_reducible assumption | with_reducible refine Bk.alloc ?_ _ | with_reducible refine Bk.drew ?_ | with_reducible refine Bk.drewN ?_ _ | with_reducible refine Bk.step ?_ (by with_reducible assumption) | with_reducible refine Bk.far ?_ (by first | omega | (simp; done) | (simp; omega)) _))
    clear hV
    replace k0 := k0.step hy; (try clear k0_0 k0_f0 k0_1 k0_f1); have k0_0 := k0.cell 0; have k0_f0 := k0.frozen 0; have k0_1 := k0.cell 1; have k0_f1 := k0.frozen 1; simp only [List.set_cons_zero, List.set_cons_succ, List.getElem?_cons_zero, List.getElem?_cons_succ] at k0_0 k0_1; (try clear lt_k0); have lt_k0 := k0.lt; replace k1 := k1.step hy; (try clear k1_0 k1_f0 k1_1 k1_f1); have k1_0 := k1.cell 0; have k1_f0 := k1.frozen 0; have k1_1 := k1.cell 1; have k1_f1 := k1.frozen 1; simp only [List.set_cons_zero, List.set_cons_succ, List.getElem?_cons_zero, List.getElem?_cons_succ] at k1_0 k1_1; (try clear lt_k1); have lt_k1 := k1.lt; replace ka := ka.step hy; (try clear ka_0 ka_f0 ka_1 ka_f1); have ka_0 := ka.cell 0; have ka_f0 := ka.frozen 0; have ka_1 := ka.cell 1; have ka_f1 := ka.frozen 1; simp only [List.set_cons_zero, List.set_cons_succ, List.getElem?_cons_zero, List.getElem?_cons_succ] at ka_0 ka_1; (try clear lt_ka); have lt_ka := ka.lt; replace kb := kb.step hy; (try clear kb_0 kb_f0 kb_1 kb_f1); have kb_0 := kb.cell 0; have kb_f0 := kb.frozen 0; have kb_1 := kb.cell 1; have kb_f1 := kb.frozen 1; simp only [List.set_cons_zero, List.set_cons_succ, List.getElem?_cons_zero, List.getElem?_cons_succ] at kb_0 kb_1; (try clear lt_kb); have lt_kb := kb.lt
    replace rA := rA.step hy
    replace rB := rB.step hy
    replace r1 := r1.step hy
    replace raa := raa.step hy
    replace rba := rba.step hy
    replace rab := rab.step hy
    replace rbb := rbb.step hy
    replace rac := rac.step hy
    replace rbc := rbc.step hy
    replace hb0 : Below w.heap.size w z4 := hb0.step hy
    have kc_0 := kc.cell 0; have kc_f0 := kc.frozen 0; have kc_1 := kc.cell 1; have kc_f1 := kc.frozen 1; simp only [List.set_cons_zero, List.set_cons_succ, List.getElem?_cons_zero, List.getElem?_cons_succ] at kc_0 kc_1; have lt_kc := kc.lt
    clear hy
    go_wp2_with fail
    refine (rGive_any A B c d l f h _ hl1 hf2 hd rA rB).mono ?_; rintro e y5 ⟨Vd, rfl, sd, hx1⟩
    obtain ⟨Ad, cd, Bd, dd, rfl, hdd, rad, rbd⟩ := sd
    replace k0 := k0.step hx1; (try clear k0_0 k0_f0 k0_1 k0_f1); have k0_0 := k0.cell 0; have k0_f0 := k0.frozen 0; have k0_1 := k0.cell 1; have k0_f1 := k0.frozen 1; simp only [List.set_cons_zero, List.set_cons_succ, List.getElem?_cons_zero, List.getElem?_cons_succ] at k0_0 k0_1; (try clear lt_k0); have lt_k0 := k0.lt; replace k1 := k1.step hx1; (try clear k1_0 k1_f0 k1_1 k1_f1); have k1_0 := k1.cell 0; have k1_f0 := k1.frozen 0; have k1_1 := k1.cell 1; have k1_f1 := k1.frozen 1; simp only [List.set_cons_zero, List.set_cons_succ, List.getElem?_cons_zero, List.getElem?_cons_succ] at k1_0 k1_1; (try clear lt_k1); have lt_k1 := k1.lt; replace ka := ka.step hx1; (try clear ka_0 ka_f0 ka_1 ka_f1); have ka_0 := ka.cell 0; have ka_f0 := ka.frozen 0; have ka_1 := ka.cell 1; have ka_f1 := ka.frozen 1; simp only [List.set_cons_zero, List.set_cons_succ, List.getElem?_cons_zero, List.getElem?_cons_succ] at ka_0 ka_1; (try clear lt_ka); have lt_ka := ka.lt; replace kb := kb.step hx1; (try clear kb_0 kb_f0 kb_1 kb_f1); have kb_0 := kb.cell 0; have kb_f0 := kb.frozen 0; have kb_1 := kb.cell 1; have kb_f1 := kb.frozen 1; simp only [List.set_cons_zero, List.set_cons_succ, List.getElem?_cons_zero, List.getElem?_cons_succ] at kb_0 kb_1; (try clear lt_kb); have lt_kb := kb.lt; replace kc := kc.step hx1; (try clear kc_0 kc_f0 kc_1 kc_f1); have kc_0 := kc.cell 0; have kc_f0 := kc.frozen 0; have kc_1 := kc.cell 1; have kc_f1 := kc.frozen 1; simp only [List.set_cons_zero, List.set_cons_succ, List.getElem?_cons_zero, List.getElem?_cons_succ] at kc_0 kc_1; (try clear lt_kc); have lt_kc := kc.lt
    replace rA := rA.step hx1
    replace rB := rB.step hx1
    replace r1 := r1.step hx1
    replace raa := raa.step hx1
    replace rba := rba.step hx1
    replace rab := rab.step hx1
    replace rbb := rbb.step hx1
    replace rac := rac.step hx1
    replace rbc := rbc.step hx1
    replace hb0 : Below w.heap.size w y5 := hb0.step hx1
    clear hx1
    generalize pChange giveD l f h = rQ at *
    go_wp2_with fail
    generalize hV : World.alloc y5 _ = z5
    have hy : Below y5.heap.size y5 z5 := by subst hV; (repeat (first | with_reducible exact Below.refl _ _ | with_reducible assumption | with_reducible refine Below.drew ?_ | with_reducible refine Below.drewN ?_ _ | with_reducible refine Below.alloc1 ?_ _ | with_reducible refine Below.setCell1 ?_ (by first | omega | (simp; done) | (simp; omega)) _ | with_reducible refine Below.step ?_ (by with_reducible assumption)))
    have kd : Bk z5 y5.heap.size 25 (stC Ad rQ.1.1.length cd Bd rQ.1.2.length dd) := by subst hV; (repeat (first | with_reducible exact Bk.new' _ _ _ _ (by simp; done) | with_reducible assumption | with_reducible refine Bk.alloc ?_ _ | with_reducible refine Bk.drew ?_ | with_reducible refine Bk.drewN ?_ _ | with_reducible refine Bk.step ?_ (by with_reducible assumption) | with_reducible refine Bk.far ?_ (by first | omega | (simp; done) | (simp; omega)) _))
    clear hV
    replace k0 := k0.step hy; (try clear k0_0 k0_f0 k0_1 k0_f1); have k0_0 := k0.cell 0; have k0_f0 := k0.frozen 0; have k0_1 := k0.cell 1; have k0_f1 := k0.frozen 1; simp only [List.set_cons_zero, List.set_cons_succ, List.getElem?_cons_zero, List.getElem?_cons_succ] at k0_0 k0_1; (try clear lt_k0); have lt_k0 := k0.lt; replace k1 := k1.step hy; (try clear k1_0 k1_f0 k1_1 k1_f1); have k1_0 := k1.cell 0; have k1_f0 := k1.frozen 0; have k1_1 := k1.cell 1; have k1_f1 := k1.frozen 1; simp only [List.set_cons_zero, List.set_cons_succ, List.getElem?_cons_zero, List.getElem?_cons_succ] at k1_0 k1_1; (try clear lt_k1); have lt_k1 := k1.lt; replace ka := ka.step hy; (try clear ka_0 ka_f0 ka_1 ka_f1); have ka_0 := ka.cell 0; have ka_f0 := ka.frozen 0; have ka_1 := ka.cell 1; have ka_f1 := ka.frozen 1; simp only [List.set_cons_zero, List.set_cons_succ, List.getElem?_cons_zero, List.getElem?_cons_succ] at ka_0 ka_1; (try clear lt_ka); have lt_ka := ka.lt; replace kb := kb.step hy; (try clear kb_0 kb_f0 kb_1 kb_f1); have kb_0 := kb.cell 0; have kb_f0 := kb.frozen 0; have kb_1 := kb.cell 1; have kb_f1 := kb.frozen 1; simp only [List.set_cons_zero, List.set_cons_succ, List.getElem?_cons_zero, List.getElem?_cons_succ] at kb_0 kb_1; (try clear lt_kb); have lt_kb := kb.lt; replace kc := kc.step hy; (try clear kc_0 kc_f0 kc_1 kc_f1); have kc_0 := kc.cell 0; have kc_f0 := kc.frozen 0; have kc_1 := kc.cell 1; have kc_f1 := kc.frozen 1; simp only [List.set_cons_zero, List.set_cons_succ, List.getElem?_cons_zero, List.getElem?_cons_succ] at kc_0 kc_1; (try clear lt_kc); have lt_kc := kc.lt
    replace rA := rA.step hy
    replace rB := rB.step hy
    replace r1 := r1.step hy
    replace raa := raa.step hy
    replace rba := rba.step hy
    replace rab := rab.step hy
    replace rbb := rbb.step hy
    replace rac := rac.step hy
    replace rbc := rbc.step hy
    replace rad := rad.step hy
    replace rbd := rbd.step hy
    replace hb0 : Below w.heap.size w z5 := hb0.step hy
    have kd_0 := kd.cell 0; have kd_f0 := kd.frozen 0; have kd_1 := kd.cell 1; have kd_f1 := kd.frozen 1; simp only [List.set_cons_zero, List.set_cons_succ, List.getElem?_cons_zero, List.getElem?_cons_succ] at kd_0 kd_1; have lt_kd := kd.lt
    clear hy
    have HLR := hide (set_len v l f h)
    go_wp2_with fail
    refine (pool_Set_any (stV A1 l.length c1 B f.length d) l f h v _ hl1 hf2 hh ⟨A1, c1, B, d, rfl, hd, r1, rB⟩).mono ?_; rintro e y6 ⟨Vn, rfl, sn, hx1⟩
    obtain ⟨An, cn, Bn, dn, rfl, hdn, ran, rbn, _, _⟩ := sn
    replace k0 := k0.step hx1; (try clear k0_0 k0_f0 k0_1 k0_f1); have k0_0 := k0.cell 0; have k0_f0 := k0.frozen 0; have k0_1 := k0.cell 1; have k0_f1 := k0.frozen 1; simp only [List.set_cons_zero, List.set_cons_succ, List.getElem?_cons_zero, List.getElem?_cons_succ] at k0_0 k0_1; (try clear lt_k0); have lt_k0 := k0.lt; replace k1 := k1.step hx1; (try clear k1_0 k1_f0 k1_1 k1_f1); have k1_0 := k1.cell 0; have k1_f0 := k1.frozen 0; have k1_1 := k1.cell 1; have k1_f1 := k1.frozen 1; simp only [List.set_cons_zero, List.set_cons_succ, List.getElem?_cons_zero, List.getElem?_cons_succ] at k1_0 k1_1; (try clear lt_k1); have lt_k1 := k1.lt; replace ka := ka.step hx1; (try clear ka_0 ka_f0 ka_1 ka_f1); have ka_0 := ka.cell 0; have ka_f0 := ka.frozen 0; have ka_1 := ka.cell 1; have ka_f1 := ka.frozen 1; simp only [List.set_cons_zero, List.set_cons_succ, List.getElem?_cons_zero, List.getElem?_cons_succ] at ka_0 ka_1; (try clear lt_ka); have lt_ka := ka.lt; replace kb := kb.step hx1; (try clear kb_0 kb_f0 kb_1 kb_f1); have kb_0 := kb.cell 0; have kb_f0 := kb.frozen 0; have kb_1 := kb.cell 1; have kb_f1 := kb.frozen 1; simp only [List.set_cons_zero, List.set_cons_succ, List.getElem?_cons_zero, List.getElem?_cons_succ] at kb_0 kb_1; (try clear lt_kb); have lt_kb := kb.lt; replace kc := kc.step hx1; (try clear kc_0 kc_f0 kc_1 kc_f1); have kc_0 := kc.cell 0; have kc_f0 := kc.frozen 0; have kc_1 := kc.cell 1; have kc_f1 := kc.frozen 1; simp only [List.set_cons_zero, List.set_cons_succ, List.getElem?_cons_zero, List.getElem?_cons_succ] at kc_0 kc_1; (try clear lt_kc); have lt_kc := kc.lt; replace kd := kd.step hx1; (try clear kd_0 kd_f0 kd_1 kd_f1); have kd_0 := kd.cell 0; have kd_f0 := kd.frozen 0; have kd_1 := kd.cell 1; have kd_f1 := kd.frozen 1; simp only [List.set_cons_zero, List.set_cons_succ, List.getElem?_cons_zero, List.getElem?_cons_succ] at kd_0 kd_1; (try clear lt_kd); have lt_kd := kd.lt
    replace rA := rA.step hx1
    replace rB := rB.step hx1
    replace r1 := r1.step hx1
    replace raa := raa.step hx1
    replace rba := rba.step hx1
    replace rab := rab.step hx1
    replace rbb := rbb.step hx1
    replace rac := rac.step hx1
    replace rbc := rbc.step hx1
    replace rad := rad.step hx1
    replace rbd := rbd.step hx1
    replace hb0 : Below w.heap.size w y6 := hb0.step hx1
    clear hx1
    go_wp2_with fail
    generalize hV : World.alloc y6 _ = z6
    have hy : Below y6.heap.size y6 z6 := by subst hV; (repeat (first | with_reducible exact Below.refl _ _ | with_reducible assumption | with_reducible refine Below.drew ?_ | with_reducible refine Below.drewN ?_ _ | with_reducible refine Below.alloc1 ?_ _ | with_reducible refine Below.setCell1 ?_ (by first | omega | (simp; done) | (simp; omega)) _ | with_reducible refine Below.step ?_ (by with_reducible assumption)))
    have kn : Bk z6 y6.heap.size 30 (stC An (pChange (setD v) l f h).1.1.length cn Bn (pChange (setD v) l f h).1.2.length dn) := by subst hV; (repeat (first | with_reducible exact Bk.new' _ _ _ _ (by simp; done) | with_reducible assumption | with_reducible refine Bk.alloc ?_ _ | with_reducible refine Bk.drew ?_ | with_reducible refine Bk.drewN ?_ _ | with_reducible refine Bk.step ?_ (by with_reducible assumption) | with_reducible refine Bk.far ?_ (by first | omega | (simp; done) | (simp; omega)) _))
    clear hV
    replace k0 := k0.step hy; (try clear k0_0 k0_f0 k0_1 k0_f1); have k0_0 := k0.cell 0; have k0_f0 := k0.frozen 0; have k0_1 := k0.cell 1; have k0_f1 := k0.frozen 1; simp only [List.set_cons_zero, List.set_cons_succ, List.getElem?_cons_zero, List.getElem?_cons_succ] at k0_0 k0_1; (try clear lt_k0); have lt_k0 := k0.lt; replace k1 := k1.step hy; (try clear k1_0 k1_f0 k1_1 k1_f1); have k1_0 := k1.cell 0; have k1_f0 := k1.frozen 0; have k1_1 := k1.cell 1; have k1_f1 := k1.frozen 1; simp only [List.set_cons_zero, List.set_cons_succ, List.getElem?_cons_zero, List.getElem?_cons_succ] at k1_0 k1_1; (try clear lt_k1); have lt_k1 := k1.lt; replace ka := ka.step hy; (try clear ka_0 ka_f0 ka_1 ka_f1); have ka_0 := ka.cell 0; have ka_f0 := ka.frozen 0; have ka_1 := ka.cell 1; have ka_f1 := ka.frozen 1; simp only [List.set_cons_zero, List.set_cons_succ, List.getElem?_cons_zero, List.getElem?_cons_succ] at ka_0 ka_1; (try clear lt_ka); have lt_ka := ka.lt; replace kb := kb.step hy; (try clear kb_0 kb_f0 kb_1 kb_f1); have kb_0 := kb.cell 0; have kb_f0 := kb.frozen 0; have kb_1 := kb.cell 1; have kb_f1 := kb.frozen 1; simp only [List.set_cons_zero, List.set_cons_succ, List.getElem?_cons_zero, List.getElem?_cons_succ] at kb_0 kb_1; (try clear lt_kb); have lt_kb := kb.lt; replace kc := kc.step hy; (try clear kc_0 kc_f0 kc_1 kc_f1); have kc_0 := kc.cell 0; have kc_f0 := kc.frozen 0; have kc_1 := kc.cell 1; have kc_f1 := kc.frozen 1; simp only [List.set_cons_zero, List.set_cons_succ, List.getElem?_cons_zero, List.getElem?_cons_succ] at kc_0 kc_1; (try clear lt_kc); have lt_kc := kc.lt; replace kd := kd.step hy; (try clear kd_0 kd_f0 kd_1 kd_f1); have kd_0 := kd.cell 0; have kd_f0 := kd.frozen 0; have kd_1 := kd.cell 1; have kd_f1 := kd.frozen 1; simp only [List.set_cons_zero, List.set_cons_succ, List.getElem?_cons_zero, List.getElem?_cons_succ] at kd_0 kd_1; (try clear lt_kd); have lt_kd := kd.lt
    replace rA := rA.step hy
    replace rB := rB.step hy
    replace r1 := r1.step hy
    replace raa := raa.step hy
    replace rba := rba.step hy
    replace rab := rab.step hy
    replace rbb := rbb.step hy
    replace rac := rac.step hy
    replace rbc := rbc.step hy
    replace rad := rad.step hy
    replace rbd := rbd.step hy
    replace ran := ran.step hy
    replace rbn := rbn.step hy
    replace hb0 : Below w.heap.size w z6 := hb0.step hy
    have kn_0 := kn.cell 0; have kn_f0 := kn.frozen 0; have kn_1 := kn.cell 1; have kn_f1 := kn.frozen 1; simp only [List.set_cons_zero, List.set_cons_succ, List.getElem?_cons_zero, List.getElem?_cons_succ] at kn_0 kn_1; have lt_kn := kn.lt
    clear hy
    go_wp2_with fail
    refine (rSet_any A B c d l f h v _ hl1 hf2 hd rA rB).mono ?_; rintro e y7 ⟨Vp, rfl, sp, hx1⟩
    obtain ⟨Ap, cp, Bp, dp, rfl, hdp, rap, rbp⟩ := sp
    replace k0 := k0.step hx1; (try clear k0_0 k0_f0 k0_1 k0_f1); have k0_0 := k0.cell 0; have k0_f0 := k0.frozen 0; have k0_1 := k0.cell 1; have k0_f1 := k0.frozen 1; simp only [List.set_cons_zero, List.set_cons_succ, List.getElem?_cons_zero, List.getElem?_cons_succ] at k0_0 k0_1; (try clear lt_k0); have lt_k0 := k0.lt; replace k1 := k1.step hx1; (try clear k1_0 k1_f0 k1_1 k1_f1); have k1_0 := k1.cell 0; have k1_f0 := k1.frozen 0; have k1_1 := k1.cell 1; have k1_f1 := k1.frozen 1; simp only [List.set_cons_zero, List.set_cons_succ, List.getElem?_cons_zero, List.getElem?_cons_succ] at k1_0 k1_1; (try clear lt_k1); have lt_k1 := k1.lt; replace ka := ka.step hx1; (try clear ka_0 ka_f0 ka_1 ka_f1); have ka_0 := ka.cell 0; have ka_f0 := ka.frozen 0; have ka_1 := ka.cell 1; have ka_f1 := ka.frozen 1; simp only [List.set_cons_zero, List.set_cons_succ, List.getElem?_cons_zero, List.getElem?_cons_succ] at ka_0 ka_1; (try clear lt_ka); have lt_ka := ka.lt; replace kb := kb.step hx1; (try clear kb_0 kb_f0 kb_1 kb_f1); have kb_0 := kb.cell 0; have kb_f0 := kb.frozen 0; have kb_1 := kb.cell 1; have kb_f1 := kb.frozen 1; simp only [List.set_cons_zero, List.set_cons_succ, List.getElem?_cons_zero, List.getElem?_cons_succ] at kb_0 kb_1; (try clear lt_kb); have lt_kb := kb.lt; replace kc := kc.step hx1; (try clear kc_0 kc_f0 kc_1 kc_f1); have kc_0 := kc.cell 0; have kc_f0 := kc.frozen 0; have kc_1 := kc.cell 1; have kc_f1 := kc.frozen 1; simp only [List.set_cons_zero, List.set_cons_succ, List.getElem?_cons_zero, List.getElem?_cons_succ] at kc_0 kc_1; (try clear lt_kc); have lt_kc := kc.lt; replace kd := kd.step hx1; (try clear kd_0 kd_f0 kd_1 kd_f1); have kd_0 := kd.cell 0; have kd_f0 := kd.frozen 0; have kd_1 := kd.cell 1; have kd_f1 := kd.frozen 1; simp only [List.set_cons_zero, List.set_cons_succ, List.getElem?_cons_zero, List.getElem?_cons_succ] at kd_0 kd_1; (try clear lt_kd); have lt_kd := kd.lt; replace kn := kn.step hx1; (try clear kn_0 kn_f0 kn_1 kn_f1); have kn_0 := kn.cell 0; have kn_f0 := kn.frozen 0; have kn_1 := kn.cell 1; have kn_f1 := kn.frozen 1; simp only [List.set_cons_zero, List.set_cons_succ, List.getElem?_cons_zero, List.getElem?_cons_succ] at kn_0 kn_1; (try clear lt_kn); have lt_kn := kn.lt
    replace rA := rA.step hx1
    replace rB := rB.step hx1
    replace r1 := r1.step hx1
    replace raa := raa.step hx1
    replace rba := rba.step hx1
    replace rab := rab.step hx1
    replace rbb := rbb.step hx1
    replace rac := rac.step hx1
    replace rbc := rbc.step hx1
    replace rad := rad.step hx1
    replace rbd := rbd.step hx1
    replace ran := ran.step hx1
    replace rbn := rbn.step hx1
    replace hb0 : Below w.heap.size w y7 := hb0.step hx1
    clear hx1
    generalize pChange (setD v) l f h = rR at *
    go_wp2_with fail
    generalize hV : World.alloc y7 _ = z7
    have hy : Below y7.heap.size y7 z7 := by subst hV; (repeat (first | with_reducible exact Below.refl _ _ | with_reducible assumption | with_reducible refine Below.drew ?_ | with_reducible refine Below.drewN ?_ _ | with_reducible refine Below.alloc1 ?_ _ | with_reducible refine Below.setCell1 ?_ (by first | omega | (simp; done) | (simp; omega)) _ | with_reducible refine Below.step ?_ (by with_reducible assumption)))
    have kp : Bk z7 y7.heap.size 25 (stC Ap rR.1.1.length cp Bp rR.1.2.length dp) := by subst hV; (repeat (first | with_reducible exact Bk.new' _ _ _ _ (by simp; done) | with_reducible assumption | with_reducible refine Bk.alloc ?_ _ | with_reducible refine Bk.drew ?_ | with_reducible refine Bk.drewN ?_ _ | with_reducible refine Bk.step ?_ (by with_reducible assumption) | with_reducible refine Bk.far ?_ (by first | omega | (simp; done) | (simp; omega)) _))
    clear hV
    replace k0 := k0.step hy; (try clear k0_0 k0_f0 k0_1 k0_f1); have k0_0 := k0.cell 0; have k0_f0 := k0.frozen 0; have k0_1 := k0.cell 1; have k0_f1 := k0.frozen 1; simp only [List.set_cons_zero, List.set_cons_succ, List.getElem?_cons_zero, List.getElem?_cons_succ] at k0_0 k0_1; (try clear lt_k0); have lt_k0 := k0.lt; replace k1 := k1.step hy; (try clear k1_0 k1_f0 k1_1 k1_f1); have k1_0 := k1.cell 0; have k1_f0 := k1.frozen 0; have k1_1 := k1.cell 1; have k1_f1 := k1.frozen 1; simp only [List.set_cons_zero, List.set_cons_succ, List.getElem?_cons_zero, List.getElem?_cons_succ] at k1_0 k1_1; (try clear lt_k1); have lt_k1 := k1.lt; replace ka := ka.step hy; (try clear ka_0 ka_f0 ka_1 ka_f1); have ka_0 := ka.cell 0; have ka_f0 := ka.frozen 0; have ka_1 := ka.cell 1; have ka_f1 := ka.frozen 1; simp only [List.set_cons_zero, List.set_cons_succ, List.getElem?_cons_zero, List.getElem?_cons_succ] at ka_0 ka_1; (try clear lt_ka); have lt_ka := ka.lt; replace kb := kb.step hy; (try clear kb_0 kb_f0 kb_1 kb_f1); have kb_0 := kb.cell 0; have kb_f0 := kb.frozen 0; have kb_1 := kb.cell 1; have kb_f1 := kb.frozen 1; simp only [List.set_cons_zero, List.set_cons_succ, List.getElem?_cons_zero, List.getElem?_cons_succ] at kb_0 kb_1; (try clear lt_kb); have lt_kb := kb.lt; replace kc := kc.step hy; (try clear kc_0 kc_f0 kc_1 kc_f1); have kc_0 := kc.cell 0; have kc_f0 := kc.frozen 0; have kc_1 := kc.cell 1; have kc_f1 := kc.frozen 1; simp only [List.set_cons_zero, List.set_cons_succ, List.getElem?_cons_zero, List.getElem?_cons_succ] at kc_0 kc_1; (try clear lt_kc); have lt_kc := kc.lt; replace kd := kd.step hy; (try clear kd_0 kd_f0 kd_1 kd_f1); have kd_0 := kd.cell 0; have kd_f0 := kd.frozen 0; have kd_1 := kd.cell 1; have kd_f1 := kd.frozen 1; simp only [List.set_cons_zero, List.set_cons_succ, List.getElem?_cons_zero, List.getElem?_cons_succ] at kd_0 kd_1; (try clear lt_kd); have lt_kd := kd.lt; replace kn := kn.step hy; (try clear kn_0 kn_f0 kn_1 kn_f1); have kn_0 := kn.cell 0; have kn_f0 := kn.frozen 0; have kn_1 := kn.cell 1; have kn_f1 := kn.frozen 1; simp only [List.set_cons_zero, List.set_cons_succ, List.getElem?_cons_zero, List.getElem?_cons_succ] at kn_0 kn_1; (try clear lt_kn); have lt_kn := kn.lt
    replace rA := rA.step hy
    replace rB := rB.step hy
    replace r1 := r1.step hy
    replace raa := raa.step hy
    replace rba := rba.step hy
    replace rab := rab.step hy
    replace rbb := rbb.step hy
    replace rac := rac.step hy
    replace rbc := rbc.step hy
    replace rad := rad.step hy
    replace rbd := rbd.step hy
    replace ran := ran.step hy
    replace rbn := rbn.step hy
    replace rap := rap.step hy
    replace rbp := rbp.step hy
    replace hb0 : Below w.heap.size w z7 := hb0.step hy
    have kp_0 := kp.cell 0; have kp_f0 := kp.frozen 0; have kp_1 := kp.cell 1; have kp_f1 := kp.frozen 1; simp only [List.set_cons_zero, List.set_cons_succ, List.getElem?_cons_zero, List.getElem?_cons_succ] at kp_0 kp_1; have lt_kp := kp.lt
    clear hy
    have qP1 : rP.1.1.length ≤ 1000 := by have := HLP.out; omega
    have qP2 : rP.1.2.length ≤ 1000 := by have := HLP.out; omega
    have qQ1 : rQ.1.1.length ≤ 1000 := by have := HLQ.out; omega
    have qQ2 : rQ.1.2.length ≤ 1000 := by have := HLQ.out; omega
    have qR1 : rR.1.1.length ≤ 1000 := by have := HLR.out; omega
    have qR2 : rR.1.2.length ≤ 1000 := by have := HLR.out; omega
    clear HLP HLQ HLR
    refine wp_region_m [(1, WithAt 0 rP.1.1.length Ba rP.1.2.length da (cls rP.1.1)), (3, only (.bool true)), (16, WithAt 0 rQ.1.1.length Bc rQ.1.2.length dc (cls rQ.1.1)), (18, only (.bool true)), (27, WithAt 0 rR.1.1.length Bn rR.1.2.length dn (cls rR.1.1)), (29, only (.bool true)), (38, WithAt 0 l.length B f.length d (cls l)), (40, only (.bool true)), (43, only (.bool true))] (by kernel_rfl) (by kernel_rfl) (by kernel_rfl) (by kernel_rfl) (sts_cons (sts_with _ _ _ _ _ _) (sts_cons (sts_only _) (sts_cons (sts_with _ _ _ _ _ _) (sts_cons (sts_only _) (sts_cons (sts_with _ _ _ _ _ _) (sts_cons (sts_only _) (sts_cons (sts_with _ _ _ _ _ _) (sts_cons (sts_only _) (sts_cons (sts_only _) sts_nil))))))))) (fun kq => ?_); (try dsimp only [List.append])
    (repeat (refine wpM_via (by kernel_rfl) ?_; go_big_quiet_step (fail); refine wpQuiet_nil ?_))
    (refine wpM_spec _ (WithAt 0 rP.1.1.length Ba rP.1.2.length da (cls rP.1.1)) (by kernel_rfl) (by kernel_rfl) rfl (later_some _) ?_ ?_; (focus (intro x hx hk; obtain ⟨px, rfl⟩ := hx; go_simp; (first | with_reducible refine mUpon_enter ?_ | with_reducible refine mUpon_value ?_); go_at_call 17; exact back_m (back_fn_any Aa Ba ca da rP.1.1 rP.1.2 _ qP1 qP2 hda (raa.step (below_regrown z7 _ _)) (rba.step (below_regrown z7 _ _))))); intro v hv K hK; obtain ⟨Ea, ea, rfl⟩ := hv; go_big_quiet_op; refine hK _ ?_; clear hK K)
    (repeat (refine wpM_via (by kernel_rfl) ?_; go_big_quiet_step (fail); refine wpQuiet_nil ?_))
    (refine wpM_only _ (.bool true) (by kernel_rfl) (by kernel_rfl) rfl (later_some _) ?_ ?_; (focus (intro x hx hk; obtain ⟨px, rfl⟩ := hx; go_simp; (first | with_reducible refine mUpon_enter ?_ | with_reducible refine mUpon_value ?_); go_at_call 16; exact (rSame_self Ea Ba Ab Bb ea da cb db rP.1.1 rP.1.2 _ qP1 qP2 (with_of (lo := 0) (hk.1 (by kernel_rfl))).1 (rba.step (below_regrown z7 _ _)) (rab.step (below_regrown z7 _ _)) (rbb.step (below_regrown z7 _ _))).mo)); intro K hK; go_big_quiet_op; refine hK _ ?_; clear hK K)
    (repeat (refine wpM_via (by kernel_rfl) ?_; go_big_quiet_step (fail); refine wpQuiet_nil ?_))
    (refine wpM_spec _ (WithAt 0 rQ.1.1.length Bc rQ.1.2.length dc (cls rQ.1.1)) (by kernel_rfl) (by kernel_rfl) rfl (later_some _) ?_ ?_; (focus (intro x hx hk; obtain ⟨px, rfl⟩ := hx; go_simp; (first | with_reducible refine mUpon_enter ?_ | with_reducible refine mUpon_value ?_); go_at_call 17; exact back_m (back_fn_any Ac Bc cc dc rQ.1.1 rQ.1.2 _ qQ1 qQ2 hdc (rac.step (below_regrown z7 _ _)) (rbc.step (below_regrown z7 _ _))))); intro v hv K hK; obtain ⟨Ec, ec, rfl⟩ := hv; go_big_quiet_op; refine hK _ ?_; clear hK K)
    (repeat (refine wpM_via (by kernel_rfl) ?_; go_big_quiet_step (fail); refine wpQuiet_nil ?_))
    (refine wpM_only _ (.bool true) (by kernel_rfl) (by kernel_rfl) rfl (later_some _) ?_ ?_; (focus (intro x hx hk; obtain ⟨px, rfl⟩ := hx; go_simp; (first | with_reducible refine mUpon_enter ?_ | with_reducible refine mUpon_value ?_); go_at_call 16; exact (rSame_self Ec Bc Ad Bd ec dc cd dd rQ.1.1 rQ.1.2 _ qQ1 qQ2 (with_of (lo := 0) (hk.1 (by kernel_rfl))).1 (rbc.step (below_regrown z7 _ _)) (rad.step (below_regrown z7 _ _)) (rbd.step (below_regrown z7 _ _))).mo)); intro K hK; go_big_quiet_op; refine hK _ ?_; clear hK K)
    (repeat (refine wpM_via (by kernel_rfl) ?_; go_big_quiet_step (fail); refine wpQuiet_nil ?_))
    (refine wpM_spec _ (WithAt 0 rR.1.1.length Bn rR.1.2.length dn (cls rR.1.1)) (by kernel_rfl) (by kernel_rfl) rfl (later_some _) ?_ ?_; (focus (intro x hx hk; obtain ⟨px, rfl⟩ := hx; go_simp; (first | with_reducible refine mUpon_enter ?_ | with_reducible refine mUpon_value ?_); go_at_call 17; exact back_m (back_fn_any An Bn cn dn rR.1.1 rR.1.2 _ qR1 qR2 hdn (ran.step (below_regrown z7 _ _)) (rbn.step (below_regrown z7 _ _))))); intro v hv K hK; obtain ⟨En, en, rfl⟩ := hv; go_big_quiet_op; refine hK _ ?_; clear hK K)
    (repeat (refine wpM_via (by kernel_rfl) ?_; go_big_quiet_step (fail); refine wpQuiet_nil ?_))
    (refine wpM_only _ (.bool true) (by kernel_rfl) (by kernel_rfl) rfl (later_some _) ?_ ?_; (focus (intro x hx hk; obtain ⟨px, rfl⟩ := hx; go_simp; (first | with_reducible refine mUpon_enter ?_ | with_reducible refine mUpon_value ?_); go_at_call 16; exact (rSame_self En Bn Ap Bp en dn cp dp rR.1.1 rR.1.2 _ qR1 qR2 (with_of (lo := 0) (hk.1 (by kernel_rfl))).1 (rbn.step (below_regrown z7 _ _)) (rap.step (below_regrown z7 _ _)) (rbp.step (below_regrown z7 _ _))).mo)); intro K hK; go_big_quiet_op; refine hK _ ?_; clear hK K)
    (repeat (refine wpM_via (by kernel_rfl) ?_; go_big_quiet_step (fail); refine wpQuiet_nil ?_))
    (refine wpM_spec _ (WithAt 0 l.length B f.length d (cls l)) (by kernel_rfl) (by kernel_rfl) rfl (later_some _) ?_ ?_; (focus (intro x hx hk; obtain ⟨px, rfl⟩ := hx; go_simp; (first | with_reducible refine mUpon_enter ?_ | with_reducible refine mUpon_value ?_); go_at_call 17; exact back_m (back_fn_any A1 B c1 d l f _ hl1 hf2 hd (r1.step (below_regrown z7 _ _)) (rB.step (below_regrown z7 _ _))))); intro v hv K hK; obtain ⟨Ex, ex, rfl⟩ := hv; go_big_quiet_op; refine hK _ ?_; clear hK K)
    (repeat (refine wpM_via (by kernel_rfl) ?_; go_big_quiet_step (fail); refine wpQuiet_nil ?_))
    (refine wpM_only _ (.bool true) (by kernel_rfl) (by kernel_rfl) rfl (later_some _) ?_ ?_; (focus (intro x hx hk; obtain ⟨px, rfl⟩ := hx; go_simp; (first | with_reducible refine mUpon_enter ?_ | with_reducible refine mUpon_value ?_); go_at_call 16; exact (rSame_self Ex B A B ex d c d l f _ hl1 hf2 (with_of (lo := 0) (hk.1 (by kernel_rfl))).1 (rB.step (below_regrown z7 _ _)) (rA.step (below_regrown z7 _ _)) (rB.step (below_regrown z7 _ _))).mo)); intro K hK; go_big_quiet_op; refine hK _ ?_; clear hK K)
    (repeat (refine wpM_via (by kernel_rfl) ?_; go_big_quiet_step (fail); refine wpQuiet_nil ?_))
    (refine wpM_only _ (.bool true) (by kernel_rfl) (by kernel_rfl) rfl (later_some _) ?_ ?_; (focus (intro x hx hk; obtain ⟨px, rfl⟩ := hx; go_simp; (first | with_reducible refine mUpon_enter ?_ | with_reducible refine mUpon_value ?_); go_at_call 8; exact (awake03 _).mo)); intro K hK; go_big_quiet_op; refine hK _ ?_; clear hK K)
    (repeat (refine wpM_via (by kernel_rfl) ?_; go_big_quiet_step (fail); refine wpQuiet_nil ?_))
    refine wpM_nil ?_; intro wq hwq hfq; have hbq := below_of_class hwq; clear hwq kq; (try dsimp only [List.drop])
    go_wp2
    go_ret
    exact ⟨rfl, hb0.step hbq⟩
  · have hfew2 : ∀ W, Calls Try.prog 7 #[stV A l.length c B f.length d] W fun e w' => e = .returned (.bool false) ∧ Below W.heap.size W w' := fun W => (hfew W).lit (by rw [Value.bool.injEq, Bool.and_eq_false_iff]; by_cases h1 : l.length ≤ 70 <;> by_cases h2 : f.length ≤ 70 <;> simp_all)
    clear hfew
    go_enter Try.func3, Try.ntmps3
    go_wp2_with fail
    refine (hfew2 _).mono ?_; rintro e y0 ⟨rfl, hx1⟩
    go_wp2_with fail
    refine (awake03 _).mono ?_; rintro e y1 ⟨rfl, hx2⟩
    go_wp2
    go_ret
    exact ⟨rfl, by (repeat (first | with_reducible exact Below.refl _ _ | with_reducible assumption | with_reducible refine Below.drew ?_ | with_reducible refine Below.drewN ?_ _ | with_reducible refine Below.alloc1 ?_ _ | with_reducible refine Below.setCell1 ?_ (by first | omega | (simp; done) | (simp; omega)) _ | with_reducible refine Below.step ?_ (by with_reducible assumption)))⟩
end Go.Proofs.Ytnmpighdkdffbaa
