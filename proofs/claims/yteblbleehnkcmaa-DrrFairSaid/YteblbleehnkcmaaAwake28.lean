/- callboylaw28: awake. -/
import Derived.Test.YteblbleehnkcmaaRef28f
import Derived.Test.YteblbleehnkcmaaSame
import Derived.Deep.DeepCutAuto
namespace Go.Proofs.Yteblbleehnkcmaa
open Go.RowKit Go.Sort
set_option linter.unusedSimpArgs false
set_option linter.unusedVariables false

theorem Rd.off {w : World} {B g : Nat} {A : Option Addr} {xs : List Value} (h : Rd w B A xs) (hne : ∀ ad, A = some ad → ad.block ≠ g) (i : Nat) (u : Value) : Rd (w.setCell ⟨g, i, none⟩ u) B A xs := fun hn => by
  obtain ⟨ad, e, hb, hc⟩ := h hn
  refine ⟨ad, e, hb, fun j v hv => ?_⟩
  have hg : (ad.add j).block ≠ g := by rw [add_block]; exact hne ad e
  exact (World.cell?_of_block (Below.heap_setCell w ⟨g, i, none⟩ u (ad.add j).block hg)).trans (hc j v hv)
theorem Rd.blk {w : World} {B : Nat} {A : Option Addr} {xs : List Value} (h : Rd w B A xs) (hn : xs ≠ []) : ∀ ad, A = some ad → ad.block < B := fun ad e => by
  obtain ⟨ad', e', hb, _⟩ := h hn
  rw [e] at e'
  cases e'
  exact hb
theorem Rd.sized {w w' : World} {A : Option Addr} {xs : List Value} (h : Rd w' w.heap.size A xs) (e : w'.heap.size = w.heap.size) : Rd w' w'.heap.size A xs := by rw [e]; exact h
def aF1 : List Fl := [⟨7, 1, 0⟩]
def aF2 : List Fl := [⟨7, 1, 0⟩, ⟨9, 2, 0⟩]
def aFX : List Fl := [⟨7, 1, 156⟩, ⟨9, 2, 56⟩]
def aFY : List Fl := [⟨7, 1, 156⟩]
def aLd (A B : Option Addr) : List Ld := [⟨7, A, 3, [100, 100, 100]⟩, ⟨9, B, 3, [100, 100, 100]⟩]
theorem aw_J1 : dJoin [] 0 false 7 1 = (aF1, 0) := by kernel_rfl
theorem aw_J2 : dJoin aF1 0 false 9 2 = (aF2, 0) := by kernel_rfl
theorem aw_J3 : dJoin aF2 0 false 9 1 = (aF2, 13) := by kernel_rfl
theorem aw_S1 (A B : Option Addr) : dServe aF2 0 false 128 350 (aLd A B) = ⟨aFX, 0, true, [1, 2], 0⟩ := by kernel_rfl
theorem aw_L1 : dLeave aFX 0 true 9 = (⟨aFY, 0, true⟩, 0) := by kernel_rfl
theorem aw_L2 : dLeave aFY 0 true 9 = (⟨aFY, 0, true⟩, 6) := by kernel_rfl
theorem aw_S2 (A B : Option Addr) : dServe aF2 0 false 127 350 (aLd A B) = ⟨aF2, 0, false, [], 8⟩ := by kernel_rfl
theorem aw_C (A B : Option Addr) : dCost (aLd A B) [1, 2] = 300 := by kernel_rfl
theorem aw_N1 : dNear 128 100 1 200 2 = true := by kernel_rfl
theorem aw_N2 : dNear 128 100000 1 0 0 = false := by kernel_rfl
theorem aw_K1 : dCheck aFX 0 true = 0 := by kernel_rfl
theorem aw_K2 : dCheck [] 1 false = 9 := by kernel_rfl
theorem aw_E1 : (decide ((0 : Int) = 0) && decide (true = false) && decide (aFX = aF2)) = false := by kernel_rfl
theorem aw_E2 : (decide ((0 : Int) = 0) && decide (true = true) && decide (aFX = aFX)) = true := by kernel_rfl
theorem aw_E3 : stEq aFX aFX 0 0 true true = true := by kernel_rfl
set_option maxRecDepth 100000 in
set_option maxHeartbeats 16000000 in
theorem awake28_any (w : World) : Calls Try.prog 8 #[] w fun e w' => e = .returned (.bool true) ∧ Below w.heap.size w w' := by
  have J1 := fun W => drr_Join_any none 0 [] 0 false 7 1 W (by simp) Rd.nil
  have J2 := fun A c W h => drr_Join_any A c aF1 0 false 9 2 W (by simp [aF1]) h
  have J3 := fun A c W h => drr_Join_any A c aF2 0 false 9 1 W (by simp [aF2]) h
  have S1 := fun A c C P Q W h1 h2 => drr_Serve_any A C c 2 aF2 0 false 128 350 (aLd P Q) W (by simp [aF2]) (by simp [aLd]) (by simp [aLd]) h1 h2
  have S2 := fun A c C P Q W h1 h2 => drr_Serve_any A C c 2 aF2 0 false 127 350 (aLd P Q) W (by simp [aF2]) (by simp [aLd]) (by simp [aLd]) h1 h2
  have L1 := fun A c W h => drr_Leave_any A c aFX 0 true 9 W (by simp [aFX]) h
  have L2 := fun A c W h => drr_Leave_any A c aFY 0 true 9 W (by simp [aFY]) h
  simp only [aw_J1] at J1
  simp only [aw_J2] at J2
  simp only [aw_J3] at J3
  simp only [aw_S1] at S1
  simp only [aw_S2] at S2
  simp only [aw_L1] at L1
  simp only [aw_L2] at L2
  replace J1 := hide J1
  replace J2 := hide J2
  replace J3 := hide J3
  replace S1 := hide S1
  replace S2 := hide S2
  replace L1 := hide L1
  replace L2 := hide L2
  go_enter Try.func8, Try.ntmps8
  go_wp2_with fail
  refine (J1.out _).mono ?_; rintro e w1 ⟨_, rfl, ⟨A1, c1, rfl, r1, _⟩, hb0⟩
  have hb := hb0
  clear J1
  go_wp2_with fail
  generalize hV : World.alloc w1 _ = w2
  have hy : Below w1.heap.size w1 w2 := by subst hV; (repeat (first | with_reducible exact Below.refl _ _ | with_reducible assumption | with_reducible refine Below.drew ?_ | with_reducible refine Below.drewN ?_ _ | with_reducible refine Below.alloc1 ?_ _ | with_reducible refine Below.setCell1 ?_ (by first | omega | (simp; done) | (simp; omega)) _ | with_reducible refine Below.step ?_ (by with_reducible assumption)))
  have k1 : Bk w2 w1.heap.size 31 (dsC A1 aF1.length c1 0 false) := by subst hV; (repeat (first | with_reducible exact Bk.new' _ _ _ _ (by simp; done) | with_reducible assumption | with_reducible refine Bk.alloc ?_ _ | with_reducible refine Bk.drew ?_ | with_reducible refine Bk.drewN ?_ _ | with_reducible refine Bk.step ?_ (by with_reducible assumption) | with_reducible refine Bk.far ?_ (by first | omega | (simp; done) | (simp; omega)) _))
  clear hV
  have r10 := r1
  replace r1 := r1.step hy
  replace hb := hb.step hy
  have lw1 : w.heap.size ≤ w1.heap.size := hb0.size
  have r1b := Rd.blk (r10) (by simp [flR, aF1, flC])
  generalize w1.heap.size = g1 at *
  clear hy hb0 r10 w1
  have k1_0 := k1.cell 0; have k1_f0 := k1.frozen 0; have k1_1 := k1.cell 1; have k1_f1 := k1.frozen 1; have k1_2 := k1.cell 2; have k1_f2 := k1.frozen 2; simp only [List.set_cons_zero, List.set_cons_succ, List.getElem?_cons_zero, List.getElem?_cons_succ] at k1_0 k1_1 k1_2; have lt_k1 := k1.lt
  have b1 : ∀ ad, A1 = some ad → ad.block < g1 := fun ad e => r1b ad e
  refine (J2.out A1 c1 _ r1).mono ?_; rintro e w3 ⟨_, rfl, ⟨A2, c2, rfl, r2, f2⟩, hy⟩
  have n2 : ∀ ad, A2 = some ad → ad.block ≠ g1 := by
    intro ad e
    rcases f2 with f2 | f2
    · have := b1 ad (f2 ▸ e); omega
    · have := f2 ad e; omega
  clear J2 r1 f2 b1 r1b
  replace k1 := k1.step hy; (try clear k1_0 k1_f0 k1_1 k1_f1 k1_2 k1_f2); have k1_0 := k1.cell 0; have k1_f0 := k1.frozen 0; have k1_1 := k1.cell 1; have k1_f1 := k1.frozen 1; have k1_2 := k1.cell 2; have k1_f2 := k1.frozen 2; simp only [List.set_cons_zero, List.set_cons_succ, List.getElem?_cons_zero, List.getElem?_cons_succ] at k1_0 k1_1 k1_2; (try clear lt_k1); have lt_k1 := k1.lt
  replace hb := hb.step hy
  clear hy
  go_wp2_with fail
  (try clear k1_0 k1_f0 k1_1 k1_f1 k1_2 k1_f2 lt_k1)
  generalize hV : World.setCell (World.setCell (World.setCell w3 _ _) _ _) _ _ = w4
  have hs4 : w4.heap.size = w3.heap.size := by subst hV; simp [World.setCell]
  replace hb : Below w.heap.size w w4 := by subst hV; exact ((hb.setCell (by dsimp only; omega) _).setCell (by dsimp only; omega) _).setCell (by dsimp only; omega) _
  replace k1 : Bk w4 g1 31 (dsC A2 aF2.length c2 0 false) := by subst hV; exact ((k1.set_ 0 _).set_ 1 _).set_ 2 _
  replace r2 : Rd w4 w4.heap.size A2 (flR aF2) := by rw [hs4]; subst hV; exact ((r2.off n2 0 _).off n2 1 _).off n2 2 _
  clear hV hs4 n2
  have k1_0 := k1.cell 0; have k1_f0 := k1.frozen 0; have k1_1 := k1.cell 1; have k1_f1 := k1.frozen 1; have k1_2 := k1.cell 2; have k1_f2 := k1.frozen 2; simp only [List.set_cons_zero, List.set_cons_succ, List.getElem?_cons_zero, List.getElem?_cons_succ] at k1_0 k1_1 k1_2; have lt_k1 := k1.lt
  refine (J3.out A2 c2 _ r2).mono ?_; rintro e w5 ⟨_, rfl, ⟨A3, c3, rfl, _, _⟩, hy⟩
  clear J3
  replace k1 := k1.step hy; (try clear k1_0 k1_f0 k1_1 k1_f1 k1_2 k1_f2); have k1_0 := k1.cell 0; have k1_f0 := k1.frozen 0; have k1_1 := k1.cell 1; have k1_f1 := k1.frozen 1; have k1_2 := k1.cell 2; have k1_f2 := k1.frozen 2; simp only [List.set_cons_zero, List.set_cons_succ, List.getElem?_cons_zero, List.getElem?_cons_succ] at k1_0 k1_1 k1_2; (try clear lt_k1); have lt_k1 := k1.lt
  replace r2 := r2.step hy
  replace hb := hb.step hy
  clear hy
  have h51 : g1 < w5.heap.size + 1 := by omega
  have h52 : g1 < w5.heap.size + 1 + 1 := by omega
  have h53 : g1 < w5.heap.size + 1 + 1 + 1 := by omega
  go_wp2_with fail
  (try clear k1_0 k1_f0 k1_1 k1_f1 k1_2 k1_f2 lt_k1)
  generalize hV : World.alloc (World.alloc (World.alloc (World.alloc w5 _) _) _) _ = w6
  have hy : Below w5.heap.size w5 w6 := by subst hV; (repeat (first | with_reducible exact Below.refl _ _ | with_reducible assumption | with_reducible refine Below.drew ?_ | with_reducible refine Below.drewN ?_ _ | with_reducible refine Below.alloc1 ?_ _ | with_reducible refine Below.setCell1 ?_ (by first | omega | (simp; done) | (simp; omega)) _ | with_reducible refine Below.step ?_ (by with_reducible assumption)))
  have kP : Bk w6 (w5.heap.size + 1) 3 (ints [100, 100, 100]) := by subst hV; exact ((Bk.new' (World.alloc w5 _) 3 (ints [100, 100, 100]) _ (by simp)).alloc _).alloc _
  have kQ : Bk w6 (w5.heap.size + 1 + 1) 3 (ints [100, 100, 100]) := by subst hV; exact (Bk.new' (World.alloc (World.alloc w5 _) _) 3 (ints [100, 100, 100]) _ (by simp)).alloc _
  have kL : Bk w6 (w5.heap.size + 1 + 1 + 1) 64 (ldR (aLd (some ⟨w5.heap.size + 1, 0, none⟩) (some ⟨w5.heap.size + 1 + 1, 0, none⟩))) := by subst hV; exact Bk.new' (World.alloc (World.alloc (World.alloc w5 _) _) _) 64 (ldR (aLd (some ⟨w5.heap.size + 1, 0, none⟩) (some ⟨w5.heap.size + 1 + 1, 0, none⟩))) _ (by simp)
  have rL : Lds w6 w6.heap.size (some ⟨w5.heap.size + 1 + 1 + 1, 0, none⟩) (aLd (some ⟨w5.heap.size + 1, 0, none⟩) (some ⟨w5.heap.size + 1 + 1, 0, none⟩)) := by
    refine ⟨kL.rd, ?_, ?_⟩
    · intro x hx
      simp only [aLd, List.mem_cons, List.not_mem_nil, or_false] at hx
      rcases hx with rfl | rfl
      · exact kP.rd
      · exact kQ.rd
    · intro x hx
      simp only [aLd, List.mem_cons, List.not_mem_nil, or_false] at hx
      rcases hx with rfl | rfl <;> simp
  clear hV kP kQ kL
  replace k1 := k1.step hy; (try clear k1_0 k1_f0 k1_1 k1_f1 k1_2 k1_f2); have k1_0 := k1.cell 0; have k1_f0 := k1.frozen 0; have k1_1 := k1.cell 1; have k1_f1 := k1.frozen 1; have k1_2 := k1.cell 2; have k1_f2 := k1.frozen 2; simp only [List.set_cons_zero, List.set_cons_succ, List.getElem?_cons_zero, List.getElem?_cons_succ] at k1_0 k1_1 k1_2; (try clear lt_k1); have lt_k1 := k1.lt
  replace r2 := r2.step hy
  replace hb := hb.step hy
  clear hy
  generalize some (⟨w5.heap.size + 1, 0, none⟩ : Addr) = P at *
  generalize some (⟨w5.heap.size + 1 + 1, 0, none⟩ : Addr) = Q at *
  generalize some (⟨w5.heap.size + 1 + 1 + 1, 0, none⟩ : Addr) = R at *
  refine (S1.out A2 c2 R P Q _ r2 rL).mono ?_; rintro e w7 ⟨_, B7, b7, rfl, ⟨A7, c7, rfl, r7, _⟩, rG, hy⟩
  clear S1
  replace k1 := k1.step hy; (try clear k1_0 k1_f0 k1_1 k1_f1 k1_2 k1_f2); have k1_0 := k1.cell 0; have k1_f0 := k1.frozen 0; have k1_1 := k1.cell 1; have k1_f1 := k1.frozen 1; have k1_2 := k1.cell 2; have k1_f2 := k1.frozen 2; simp only [List.set_cons_zero, List.set_cons_succ, List.getElem?_cons_zero, List.getElem?_cons_succ] at k1_0 k1_1 k1_2; (try clear lt_k1); have lt_k1 := k1.lt
  replace r2 := r2.step hy
  replace rL := rL.step hy
  replace hb := hb.step hy
  clear hy
  go_wp2_with fail
  generalize hV : World.alloc w7 _ = w8
  have hy : Below w7.heap.size w7 w8 := by subst hV; (repeat (first | with_reducible exact Below.refl _ _ | with_reducible assumption | with_reducible refine Below.drew ?_ | with_reducible refine Below.drewN ?_ _ | with_reducible refine Below.alloc1 ?_ _ | with_reducible refine Below.setCell1 ?_ (by first | omega | (simp; done) | (simp; omega)) _ | with_reducible refine Below.step ?_ (by with_reducible assumption)))
  have k7 : Bk w8 w7.heap.size 31 (dsC A7 aFX.length c7 0 true) := by subst hV; (repeat (first | with_reducible exact Bk.new' _ _ _ _ (by simp; done) | with_reducible assumption | with_reducible refine Bk.alloc ?_ _ | with_reducible refine Bk.drew ?_ | with_reducible refine Bk.drewN ?_ _ | with_reducible refine Bk.step ?_ (by with_reducible assumption) | with_reducible refine Bk.far ?_ (by first | omega | (simp; done) | (simp; omega)) _))
  clear hV
  replace k1 := k1.step hy; (try clear k1_0 k1_f0 k1_1 k1_f1 k1_2 k1_f2); have k1_0 := k1.cell 0; have k1_f0 := k1.frozen 0; have k1_1 := k1.cell 1; have k1_f1 := k1.frozen 1; have k1_2 := k1.cell 2; have k1_f2 := k1.frozen 2; simp only [List.set_cons_zero, List.set_cons_succ, List.getElem?_cons_zero, List.getElem?_cons_succ] at k1_0 k1_1 k1_2; (try clear lt_k1); have lt_k1 := k1.lt
  replace r2 := r2.step hy
  replace rL := rL.step hy
  replace r7 := r7.step hy
  replace rG := rG.step hy
  replace hb := hb.step hy
  clear hy
  generalize w7.heap.size = g7 at *
  have k7_0 := k7.cell 0; have k7_f0 := k7.frozen 0; have k7_1 := k7.cell 1; have k7_f1 := k7.frozen 1; have k7_2 := k7.cell 2; have k7_f2 := k7.frozen 2; simp only [List.set_cons_zero, List.set_cons_succ, List.getElem?_cons_zero, List.getElem?_cons_succ] at k7_0 k7_1 k7_2; have lt_k7 := k7.lt
  refine (L1.out A7 c7 _ r7).mono ?_; rintro e w9 ⟨_, rfl, ⟨A9, c9, rfl, r9⟩, hy⟩
  clear L1
  replace k1 := k1.step hy; (try clear k1_0 k1_f0 k1_1 k1_f1 k1_2 k1_f2); have k1_0 := k1.cell 0; have k1_f0 := k1.frozen 0; have k1_1 := k1.cell 1; have k1_f1 := k1.frozen 1; have k1_2 := k1.cell 2; have k1_f2 := k1.frozen 2; simp only [List.set_cons_zero, List.set_cons_succ, List.getElem?_cons_zero, List.getElem?_cons_succ] at k1_0 k1_1 k1_2; (try clear lt_k1); have lt_k1 := k1.lt; replace k7 := k7.step hy; (try clear k7_0 k7_f0 k7_1 k7_f1 k7_2 k7_f2); have k7_0 := k7.cell 0; have k7_f0 := k7.frozen 0; have k7_1 := k7.cell 1; have k7_f1 := k7.frozen 1; have k7_2 := k7.cell 2; have k7_f2 := k7.frozen 2; simp only [List.set_cons_zero, List.set_cons_succ, List.getElem?_cons_zero, List.getElem?_cons_succ] at k7_0 k7_1 k7_2; (try clear lt_k7); have lt_k7 := k7.lt
  replace r2 := r2.step hy
  replace rL := rL.step hy
  replace r7 := r7.step hy
  replace rG := rG.step hy
  replace hb := hb.step hy
  clear hy
  go_wp2_with fail
  generalize hV : World.alloc w9 _ = w10
  have hy : Below w9.heap.size w9 w10 := by subst hV; (repeat (first | with_reducible exact Below.refl _ _ | with_reducible assumption | with_reducible refine Below.drew ?_ | with_reducible refine Below.drewN ?_ _ | with_reducible refine Below.alloc1 ?_ _ | with_reducible refine Below.setCell1 ?_ (by first | omega | (simp; done) | (simp; omega)) _ | with_reducible refine Below.step ?_ (by with_reducible assumption)))
  have k9 : Bk w10 w9.heap.size 31 (dsC A9 aFY.length c9 0 true) := by subst hV; (repeat (first | with_reducible exact Bk.new' _ _ _ _ (by simp; done) | with_reducible assumption | with_reducible refine Bk.alloc ?_ _ | with_reducible refine Bk.drew ?_ | with_reducible refine Bk.drewN ?_ _ | with_reducible refine Bk.step ?_ (by with_reducible assumption) | with_reducible refine Bk.far ?_ (by first | omega | (simp; done) | (simp; omega)) _))
  clear hV
  replace k1 := k1.step hy; (try clear k1_0 k1_f0 k1_1 k1_f1 k1_2 k1_f2); have k1_0 := k1.cell 0; have k1_f0 := k1.frozen 0; have k1_1 := k1.cell 1; have k1_f1 := k1.frozen 1; have k1_2 := k1.cell 2; have k1_f2 := k1.frozen 2; simp only [List.set_cons_zero, List.set_cons_succ, List.getElem?_cons_zero, List.getElem?_cons_succ] at k1_0 k1_1 k1_2; (try clear lt_k1); have lt_k1 := k1.lt; replace k7 := k7.step hy; (try clear k7_0 k7_f0 k7_1 k7_f1 k7_2 k7_f2); have k7_0 := k7.cell 0; have k7_f0 := k7.frozen 0; have k7_1 := k7.cell 1; have k7_f1 := k7.frozen 1; have k7_2 := k7.cell 2; have k7_f2 := k7.frozen 2; simp only [List.set_cons_zero, List.set_cons_succ, List.getElem?_cons_zero, List.getElem?_cons_succ] at k7_0 k7_1 k7_2; (try clear lt_k7); have lt_k7 := k7.lt
  replace r2 := r2.step hy
  replace rL := rL.step hy
  replace r7 := r7.step hy
  replace rG := rG.step hy
  replace r9 := r9.step hy
  replace hb := hb.step hy
  clear hy
  generalize w9.heap.size = g9 at *
  have k9_0 := k9.cell 0; have k9_f0 := k9.frozen 0; have k9_1 := k9.cell 1; have k9_f1 := k9.frozen 1; have k9_2 := k9.cell 2; have k9_f2 := k9.frozen 2; simp only [List.set_cons_zero, List.set_cons_succ, List.getElem?_cons_zero, List.getElem?_cons_succ] at k9_0 k9_1 k9_2; have lt_k9 := k9.lt
  refine (L2.out A9 c9 _ r9).mono ?_; rintro e w11 ⟨_, rfl, ⟨A11, c11, rfl, _⟩, hy⟩
  clear L2
  replace k1 := k1.step hy; (try clear k1_0 k1_f0 k1_1 k1_f1 k1_2 k1_f2); have k1_0 := k1.cell 0; have k1_f0 := k1.frozen 0; have k1_1 := k1.cell 1; have k1_f1 := k1.frozen 1; have k1_2 := k1.cell 2; have k1_f2 := k1.frozen 2; simp only [List.set_cons_zero, List.set_cons_succ, List.getElem?_cons_zero, List.getElem?_cons_succ] at k1_0 k1_1 k1_2; (try clear lt_k1); have lt_k1 := k1.lt; replace k7 := k7.step hy; (try clear k7_0 k7_f0 k7_1 k7_f1 k7_2 k7_f2); have k7_0 := k7.cell 0; have k7_f0 := k7.frozen 0; have k7_1 := k7.cell 1; have k7_f1 := k7.frozen 1; have k7_2 := k7.cell 2; have k7_f2 := k7.frozen 2; simp only [List.set_cons_zero, List.set_cons_succ, List.getElem?_cons_zero, List.getElem?_cons_succ] at k7_0 k7_1 k7_2; (try clear lt_k7); have lt_k7 := k7.lt; replace k9 := k9.step hy; (try clear k9_0 k9_f0 k9_1 k9_f1 k9_2 k9_f2); have k9_0 := k9.cell 0; have k9_f0 := k9.frozen 0; have k9_1 := k9.cell 1; have k9_f1 := k9.frozen 1; have k9_2 := k9.cell 2; have k9_f2 := k9.frozen 2; simp only [List.set_cons_zero, List.set_cons_succ, List.getElem?_cons_zero, List.getElem?_cons_succ] at k9_0 k9_1 k9_2; (try clear lt_k9); have lt_k9 := k9.lt
  replace r2 := r2.step hy
  replace rL := rL.step hy
  replace r7 := r7.step hy
  replace rG := rG.step hy
  replace r9 := r9.step hy
  replace hb := hb.step hy
  clear hy
  go_wp2_with fail
  generalize hV : World.alloc w11 _ = w12
  have hy : Below w11.heap.size w11 w12 := by subst hV; (repeat (first | with_reducible exact Below.refl _ _ | with_reducible assumption | with_reducible refine Below.drew ?_ | with_reducible refine Below.drewN ?_ _ | with_reducible refine Below.alloc1 ?_ _ | with_reducible refine Below.setCell1 ?_ (by first | omega | (simp; done) | (simp; omega)) _ | with_reducible refine Below.step ?_ (by with_reducible assumption)))
  clear hV
  replace k1 := k1.step hy; (try clear k1_0 k1_f0 k1_1 k1_f1 k1_2 k1_f2); have k1_0 := k1.cell 0; have k1_f0 := k1.frozen 0; have k1_1 := k1.cell 1; have k1_f1 := k1.frozen 1; have k1_2 := k1.cell 2; have k1_f2 := k1.frozen 2; simp only [List.set_cons_zero, List.set_cons_succ, List.getElem?_cons_zero, List.getElem?_cons_succ] at k1_0 k1_1 k1_2; (try clear lt_k1); have lt_k1 := k1.lt; replace k7 := k7.step hy; (try clear k7_0 k7_f0 k7_1 k7_f1 k7_2 k7_f2); have k7_0 := k7.cell 0; have k7_f0 := k7.frozen 0; have k7_1 := k7.cell 1; have k7_f1 := k7.frozen 1; have k7_2 := k7.cell 2; have k7_f2 := k7.frozen 2; simp only [List.set_cons_zero, List.set_cons_succ, List.getElem?_cons_zero, List.getElem?_cons_succ] at k7_0 k7_1 k7_2; (try clear lt_k7); have lt_k7 := k7.lt; replace k9 := k9.step hy; (try clear k9_0 k9_f0 k9_1 k9_f1 k9_2 k9_f2); have k9_0 := k9.cell 0; have k9_f0 := k9.frozen 0; have k9_1 := k9.cell 1; have k9_f1 := k9.frozen 1; have k9_2 := k9.cell 2; have k9_f2 := k9.frozen 2; simp only [List.set_cons_zero, List.set_cons_succ, List.getElem?_cons_zero, List.getElem?_cons_succ] at k9_0 k9_1 k9_2; (try clear lt_k9); have lt_k9 := k9.lt
  replace r2 := r2.step hy
  replace rL := rL.step hy
  replace r7 := r7.step hy
  replace rG := rG.step hy
  replace r9 := r9.step hy
  replace hb := hb.step hy
  clear hy
  refine (S2.out A2 c2 R P Q _ r2 rL).mono ?_; rintro e w13 ⟨_, B13, b13, rfl, ⟨A13, c13, rfl, _, _⟩, _, hy⟩
  clear S2
  replace k1 := k1.step hy; (try clear k1_0 k1_f0 k1_1 k1_f1 k1_2 k1_f2); have k1_0 := k1.cell 0; have k1_f0 := k1.frozen 0; have k1_1 := k1.cell 1; have k1_f1 := k1.frozen 1; have k1_2 := k1.cell 2; have k1_f2 := k1.frozen 2; simp only [List.set_cons_zero, List.set_cons_succ, List.getElem?_cons_zero, List.getElem?_cons_succ] at k1_0 k1_1 k1_2; (try clear lt_k1); have lt_k1 := k1.lt; replace k7 := k7.step hy; (try clear k7_0 k7_f0 k7_1 k7_f1 k7_2 k7_f2); have k7_0 := k7.cell 0; have k7_f0 := k7.frozen 0; have k7_1 := k7.cell 1; have k7_f1 := k7.frozen 1; have k7_2 := k7.cell 2; have k7_f2 := k7.frozen 2; simp only [List.set_cons_zero, List.set_cons_succ, List.getElem?_cons_zero, List.getElem?_cons_succ] at k7_0 k7_1 k7_2; (try clear lt_k7); have lt_k7 := k7.lt; replace k9 := k9.step hy; (try clear k9_0 k9_f0 k9_1 k9_f1 k9_2 k9_f2); have k9_0 := k9.cell 0; have k9_f0 := k9.frozen 0; have k9_1 := k9.cell 1; have k9_f1 := k9.frozen 1; have k9_2 := k9.cell 2; have k9_f2 := k9.frozen 2; simp only [List.set_cons_zero, List.set_cons_succ, List.getElem?_cons_zero, List.getElem?_cons_succ] at k9_0 k9_1 k9_2; (try clear lt_k9); have lt_k9 := k9.lt
  replace r2 := r2.step hy
  replace rL := rL.step hy
  replace r7 := r7.step hy
  replace rG := rG.step hy
  replace r9 := r9.step hy
  replace hb := hb.step hy
  clear hy
  have hy1 : ((aFY.length : Int) == 1) = true := by kernel_rfl
  go_wp2_with fail
  generalize hV : World.alloc (World.alloc w13 _) _ = w14
  have hy : Below w13.heap.size w13 w14 := by subst hV; (repeat (first | with_reducible exact Below.refl _ _ | with_reducible assumption | with_reducible refine Below.drew ?_ | with_reducible refine Below.drewN ?_ _ | with_reducible refine Below.alloc1 ?_ _ | with_reducible refine Below.setCell1 ?_ (by first | omega | (simp; done) | (simp; omega)) _ | with_reducible refine Below.step ?_ (by with_reducible assumption)))
  have kS : Bk w14 (w13.heap.size + 1) 3 (ints [1, 2]) := by subst hV; exact Bk.new' (World.alloc w13 _) 3 (ints [1, 2]) _ (by simp)
  clear hV
  replace k1 := k1.step hy; (try clear k1_0 k1_f0 k1_1 k1_f1 k1_2 k1_f2); have k1_0 := k1.cell 0; have k1_f0 := k1.frozen 0; have k1_1 := k1.cell 1; have k1_f1 := k1.frozen 1; have k1_2 := k1.cell 2; have k1_f2 := k1.frozen 2; simp only [List.set_cons_zero, List.set_cons_succ, List.getElem?_cons_zero, List.getElem?_cons_succ] at k1_0 k1_1 k1_2; (try clear lt_k1); have lt_k1 := k1.lt; replace k7 := k7.step hy; (try clear k7_0 k7_f0 k7_1 k7_f1 k7_2 k7_f2); have k7_0 := k7.cell 0; have k7_f0 := k7.frozen 0; have k7_1 := k7.cell 1; have k7_f1 := k7.frozen 1; have k7_2 := k7.cell 2; have k7_f2 := k7.frozen 2; simp only [List.set_cons_zero, List.set_cons_succ, List.getElem?_cons_zero, List.getElem?_cons_succ] at k7_0 k7_1 k7_2; (try clear lt_k7); have lt_k7 := k7.lt; replace k9 := k9.step hy; (try clear k9_0 k9_f0 k9_1 k9_f1 k9_2 k9_f2); have k9_0 := k9.cell 0; have k9_f0 := k9.frozen 0; have k9_1 := k9.cell 1; have k9_f1 := k9.frozen 1; have k9_2 := k9.cell 2; have k9_f2 := k9.frozen 2; simp only [List.set_cons_zero, List.set_cons_succ, List.getElem?_cons_zero, List.getElem?_cons_succ] at k9_0 k9_1 k9_2; (try clear lt_k9); have lt_k9 := k9.lt
  replace r2 := r2.step hy
  replace rL := rL.step hy
  replace r7 := r7.step hy
  replace rG := rG.step hy
  replace r9 := r9.step hy
  replace hb := hb.step hy
  clear hy
  have rS := kS.rd
  generalize some (⟨w13.heap.size + 1, 0, none⟩ : Addr) = S0 at *
  have SI := SameInts_any B7 S0 b7 2 [1, 2] [1, 2] _ (by unfold maxLen; simp) rG rS
  rw [show decide (([1, 2] : List Int) = [1, 2]) = true from rfl] at SI
  refine SI.mono ?_; rintro e w15 ⟨rfl, hq⟩
  have hy := qt_below hq
  clear SI kS rS hq
  replace k1 := k1.step hy; (try clear k1_0 k1_f0 k1_1 k1_f1 k1_2 k1_f2); have k1_0 := k1.cell 0; have k1_f0 := k1.frozen 0; have k1_1 := k1.cell 1; have k1_f1 := k1.frozen 1; have k1_2 := k1.cell 2; have k1_f2 := k1.frozen 2; simp only [List.set_cons_zero, List.set_cons_succ, List.getElem?_cons_zero, List.getElem?_cons_succ] at k1_0 k1_1 k1_2; (try clear lt_k1); have lt_k1 := k1.lt; replace k7 := k7.step hy; (try clear k7_0 k7_f0 k7_1 k7_f1 k7_2 k7_f2); have k7_0 := k7.cell 0; have k7_f0 := k7.frozen 0; have k7_1 := k7.cell 1; have k7_f1 := k7.frozen 1; have k7_2 := k7.cell 2; have k7_f2 := k7.frozen 2; simp only [List.set_cons_zero, List.set_cons_succ, List.getElem?_cons_zero, List.getElem?_cons_succ] at k7_0 k7_1 k7_2; (try clear lt_k7); have lt_k7 := k7.lt; replace k9 := k9.step hy; (try clear k9_0 k9_f0 k9_1 k9_f1 k9_2 k9_f2); have k9_0 := k9.cell 0; have k9_f0 := k9.frozen 0; have k9_1 := k9.cell 1; have k9_f1 := k9.frozen 1; have k9_2 := k9.cell 2; have k9_f2 := k9.frozen 2; simp only [List.set_cons_zero, List.set_cons_succ, List.getElem?_cons_zero, List.getElem?_cons_succ] at k9_0 k9_1 k9_2; (try clear lt_k9); have lt_k9 := k9.lt
  replace r2 := r2.step hy
  replace rL := rL.step hy
  replace r7 := r7.step hy
  replace rG := rG.step hy
  replace r9 := r9.step hy
  replace hb := hb.step hy
  clear hy
  go_wp2_with fail
  refine (law_Back_any A7 c7 aFX 0 true _ (by simp [aFX]) r7).mono ?_; rintro e w16 ⟨BX, dX, rfl, _, rX, hy⟩
  replace k1 := k1.step hy; (try clear k1_0 k1_f0 k1_1 k1_f1 k1_2 k1_f2); have k1_0 := k1.cell 0; have k1_f0 := k1.frozen 0; have k1_1 := k1.cell 1; have k1_f1 := k1.frozen 1; have k1_2 := k1.cell 2; have k1_f2 := k1.frozen 2; simp only [List.set_cons_zero, List.set_cons_succ, List.getElem?_cons_zero, List.getElem?_cons_succ] at k1_0 k1_1 k1_2; (try clear lt_k1); have lt_k1 := k1.lt; replace k7 := k7.step hy; (try clear k7_0 k7_f0 k7_1 k7_f1 k7_2 k7_f2); have k7_0 := k7.cell 0; have k7_f0 := k7.frozen 0; have k7_1 := k7.cell 1; have k7_f1 := k7.frozen 1; have k7_2 := k7.cell 2; have k7_f2 := k7.frozen 2; simp only [List.set_cons_zero, List.set_cons_succ, List.getElem?_cons_zero, List.getElem?_cons_succ] at k7_0 k7_1 k7_2; (try clear lt_k7); have lt_k7 := k7.lt; replace k9 := k9.step hy; (try clear k9_0 k9_f0 k9_1 k9_f1 k9_2 k9_f2); have k9_0 := k9.cell 0; have k9_f0 := k9.frozen 0; have k9_1 := k9.cell 1; have k9_f1 := k9.frozen 1; have k9_2 := k9.cell 2; have k9_f2 := k9.frozen 2; simp only [List.set_cons_zero, List.set_cons_succ, List.getElem?_cons_zero, List.getElem?_cons_succ] at k9_0 k9_1 k9_2; (try clear lt_k9); have lt_k9 := k9.lt
  replace r2 := r2.step hy
  replace rL := rL.step hy
  replace r7 := r7.step hy
  replace rG := rG.step hy
  replace r9 := r9.step hy
  replace hb := hb.step hy
  clear hy
  go_wp2_with fail
  generalize hV : World.alloc w16 _ = w17
  have hy : Below w16.heap.size w16 w17 := by subst hV; (repeat (first | with_reducible exact Below.refl _ _ | with_reducible assumption | with_reducible refine Below.drew ?_ | with_reducible refine Below.drewN ?_ _ | with_reducible refine Below.alloc1 ?_ _ | with_reducible refine Below.setCell1 ?_ (by first | omega | (simp; done) | (simp; omega)) _ | with_reducible refine Below.step ?_ (by with_reducible assumption)))
  have kX : Bk w17 w16.heap.size 73 (flR aFX) := by subst hV; exact Bk.new' w16 73 (flR aFX) _ rfl
  clear hV
  replace k1 := k1.step hy; (try clear k1_0 k1_f0 k1_1 k1_f1 k1_2 k1_f2); have k1_0 := k1.cell 0; have k1_f0 := k1.frozen 0; have k1_1 := k1.cell 1; have k1_f1 := k1.frozen 1; have k1_2 := k1.cell 2; have k1_f2 := k1.frozen 2; simp only [List.set_cons_zero, List.set_cons_succ, List.getElem?_cons_zero, List.getElem?_cons_succ] at k1_0 k1_1 k1_2; (try clear lt_k1); have lt_k1 := k1.lt; replace k7 := k7.step hy; (try clear k7_0 k7_f0 k7_1 k7_f1 k7_2 k7_f2); have k7_0 := k7.cell 0; have k7_f0 := k7.frozen 0; have k7_1 := k7.cell 1; have k7_f1 := k7.frozen 1; have k7_2 := k7.cell 2; have k7_f2 := k7.frozen 2; simp only [List.set_cons_zero, List.set_cons_succ, List.getElem?_cons_zero, List.getElem?_cons_succ] at k7_0 k7_1 k7_2; (try clear lt_k7); have lt_k7 := k7.lt; replace k9 := k9.step hy; (try clear k9_0 k9_f0 k9_1 k9_f1 k9_2 k9_f2); have k9_0 := k9.cell 0; have k9_f0 := k9.frozen 0; have k9_1 := k9.cell 1; have k9_f1 := k9.frozen 1; have k9_2 := k9.cell 2; have k9_f2 := k9.frozen 2; simp only [List.set_cons_zero, List.set_cons_succ, List.getElem?_cons_zero, List.getElem?_cons_succ] at k9_0 k9_1 k9_2; (try clear lt_k9); have lt_k9 := k9.lt
  replace r2 := r2.step hy
  replace rL := rL.step hy
  replace r7 := r7.step hy
  replace rG := rG.step hy
  replace r9 := r9.step hy
  replace rX := rX.step hy
  replace hb := hb.step hy
  clear hy
  have rY := kX.rd
  generalize some (⟨w16.heap.size, 0, none⟩ : Addr) = Y0 at *
  have SS := ref_Same_any BX Y0 dX 2 aFX aFX 0 0 true true _ (by simp [aFX]) rX rY
  rw [aw_E3] at SS
  refine SS.mono ?_; rintro e w18 ⟨rfl, hy⟩
  clear SS kX rY
  clear rX
  replace k1 := k1.step hy; (try clear k1_0 k1_f0 k1_1 k1_f1 k1_2 k1_f2); have k1_0 := k1.cell 0; have k1_f0 := k1.frozen 0; have k1_1 := k1.cell 1; have k1_f1 := k1.frozen 1; have k1_2 := k1.cell 2; have k1_f2 := k1.frozen 2; simp only [List.set_cons_zero, List.set_cons_succ, List.getElem?_cons_zero, List.getElem?_cons_succ] at k1_0 k1_1 k1_2; (try clear lt_k1); have lt_k1 := k1.lt; replace k7 := k7.step hy; (try clear k7_0 k7_f0 k7_1 k7_f1 k7_2 k7_f2); have k7_0 := k7.cell 0; have k7_f0 := k7.frozen 0; have k7_1 := k7.cell 1; have k7_f1 := k7.frozen 1; have k7_2 := k7.cell 2; have k7_f2 := k7.frozen 2; simp only [List.set_cons_zero, List.set_cons_succ, List.getElem?_cons_zero, List.getElem?_cons_succ] at k7_0 k7_1 k7_2; (try clear lt_k7); have lt_k7 := k7.lt; replace k9 := k9.step hy; (try clear k9_0 k9_f0 k9_1 k9_f1 k9_2 k9_f2); have k9_0 := k9.cell 0; have k9_f0 := k9.frozen 0; have k9_1 := k9.cell 1; have k9_f1 := k9.frozen 1; have k9_2 := k9.cell 2; have k9_f2 := k9.frozen 2; simp only [List.set_cons_zero, List.set_cons_succ, List.getElem?_cons_zero, List.getElem?_cons_succ] at k9_0 k9_1 k9_2; (try clear lt_k9); have lt_k9 := k9.lt
  replace r2 := r2.step hy
  replace rL := rL.step hy
  replace r7 := r7.step hy
  replace rG := rG.step hy
  replace r9 := r9.step hy
  replace hb := hb.step hy
  clear hy
  have CO := drr_Cost_any R B7 2 b7 (aLd P Q) [1, 2] _ (by simp [aLd]) (by simp) (by simp [aLd]) rL rG
  rw [aw_C] at CO
  go_wp2_with fail
  refine CO.mono ?_; rintro e w19 ⟨rfl, hy⟩
  clear CO
  replace k1 := k1.step hy; (try clear k1_0 k1_f0 k1_1 k1_f1 k1_2 k1_f2); have k1_0 := k1.cell 0; have k1_f0 := k1.frozen 0; have k1_1 := k1.cell 1; have k1_f1 := k1.frozen 1; have k1_2 := k1.cell 2; have k1_f2 := k1.frozen 2; simp only [List.set_cons_zero, List.set_cons_succ, List.getElem?_cons_zero, List.getElem?_cons_succ] at k1_0 k1_1 k1_2; (try clear lt_k1); have lt_k1 := k1.lt; replace k7 := k7.step hy; (try clear k7_0 k7_f0 k7_1 k7_f1 k7_2 k7_f2); have k7_0 := k7.cell 0; have k7_f0 := k7.frozen 0; have k7_1 := k7.cell 1; have k7_f1 := k7.frozen 1; have k7_2 := k7.cell 2; have k7_f2 := k7.frozen 2; simp only [List.set_cons_zero, List.set_cons_succ, List.getElem?_cons_zero, List.getElem?_cons_succ] at k7_0 k7_1 k7_2; (try clear lt_k7); have lt_k7 := k7.lt; replace k9 := k9.step hy; (try clear k9_0 k9_f0 k9_1 k9_f1 k9_2 k9_f2); have k9_0 := k9.cell 0; have k9_f0 := k9.frozen 0; have k9_1 := k9.cell 1; have k9_f1 := k9.frozen 1; have k9_2 := k9.cell 2; have k9_f2 := k9.frozen 2; simp only [List.set_cons_zero, List.set_cons_succ, List.getElem?_cons_zero, List.getElem?_cons_succ] at k9_0 k9_1 k9_2; (try clear lt_k9); have lt_k9 := k9.lt
  replace r2 := r2.step hy
  replace rL := rL.step hy
  replace r7 := r7.step hy
  replace rG := rG.step hy
  replace r9 := r9.step hy
  replace hb := hb.step hy
  clear hy
  have N1 := drr_Near_any 128 100 1 200 2 w19
  rw [aw_N1] at N1
  go_wp2_with fail
  refine N1.mono ?_; rintro e w20 ⟨rfl, hy⟩
  clear N1
  replace k1 := k1.step hy; (try clear k1_0 k1_f0 k1_1 k1_f1 k1_2 k1_f2); have k1_0 := k1.cell 0; have k1_f0 := k1.frozen 0; have k1_1 := k1.cell 1; have k1_f1 := k1.frozen 1; have k1_2 := k1.cell 2; have k1_f2 := k1.frozen 2; simp only [List.set_cons_zero, List.set_cons_succ, List.getElem?_cons_zero, List.getElem?_cons_succ] at k1_0 k1_1 k1_2; (try clear lt_k1); have lt_k1 := k1.lt; replace k7 := k7.step hy; (try clear k7_0 k7_f0 k7_1 k7_f1 k7_2 k7_f2); have k7_0 := k7.cell 0; have k7_f0 := k7.frozen 0; have k7_1 := k7.cell 1; have k7_f1 := k7.frozen 1; have k7_2 := k7.cell 2; have k7_f2 := k7.frozen 2; simp only [List.set_cons_zero, List.set_cons_succ, List.getElem?_cons_zero, List.getElem?_cons_succ] at k7_0 k7_1 k7_2; (try clear lt_k7); have lt_k7 := k7.lt; replace k9 := k9.step hy; (try clear k9_0 k9_f0 k9_1 k9_f1 k9_2 k9_f2); have k9_0 := k9.cell 0; have k9_f0 := k9.frozen 0; have k9_1 := k9.cell 1; have k9_f1 := k9.frozen 1; have k9_2 := k9.cell 2; have k9_f2 := k9.frozen 2; simp only [List.set_cons_zero, List.set_cons_succ, List.getElem?_cons_zero, List.getElem?_cons_succ] at k9_0 k9_1 k9_2; (try clear lt_k9); have lt_k9 := k9.lt
  replace r2 := r2.step hy
  replace rL := rL.step hy
  replace r7 := r7.step hy
  replace rG := rG.step hy
  replace r9 := r9.step hy
  replace hb := hb.step hy
  clear hy
  have N2 := drr_Near_any 128 100000 1 0 0 w20
  rw [aw_N2] at N2
  go_wp2_with fail
  refine N2.mono ?_; rintro e w21 ⟨rfl, hy⟩
  clear N2
  replace k1 := k1.step hy; (try clear k1_0 k1_f0 k1_1 k1_f1 k1_2 k1_f2); have k1_0 := k1.cell 0; have k1_f0 := k1.frozen 0; have k1_1 := k1.cell 1; have k1_f1 := k1.frozen 1; have k1_2 := k1.cell 2; have k1_f2 := k1.frozen 2; simp only [List.set_cons_zero, List.set_cons_succ, List.getElem?_cons_zero, List.getElem?_cons_succ] at k1_0 k1_1 k1_2; (try clear lt_k1); have lt_k1 := k1.lt; replace k7 := k7.step hy; (try clear k7_0 k7_f0 k7_1 k7_f1 k7_2 k7_f2); have k7_0 := k7.cell 0; have k7_f0 := k7.frozen 0; have k7_1 := k7.cell 1; have k7_f1 := k7.frozen 1; have k7_2 := k7.cell 2; have k7_f2 := k7.frozen 2; simp only [List.set_cons_zero, List.set_cons_succ, List.getElem?_cons_zero, List.getElem?_cons_succ] at k7_0 k7_1 k7_2; (try clear lt_k7); have lt_k7 := k7.lt; replace k9 := k9.step hy; (try clear k9_0 k9_f0 k9_1 k9_f1 k9_2 k9_f2); have k9_0 := k9.cell 0; have k9_f0 := k9.frozen 0; have k9_1 := k9.cell 1; have k9_f1 := k9.frozen 1; have k9_2 := k9.cell 2; have k9_f2 := k9.frozen 2; simp only [List.set_cons_zero, List.set_cons_succ, List.getElem?_cons_zero, List.getElem?_cons_succ] at k9_0 k9_1 k9_2; (try clear lt_k9); have lt_k9 := k9.lt
  replace r2 := r2.step hy
  replace rL := rL.step hy
  replace r7 := r7.step hy
  replace rG := rG.step hy
  replace r9 := r9.step hy
  replace hb := hb.step hy
  clear hy
  have K1 := drr_Check_any A7 c7 aFX 0 true _ (by simp [aFX]) r7
  rw [aw_K1] at K1
  go_wp2_with fail
  refine K1.mono ?_; rintro e w22 ⟨rfl, hy⟩
  clear K1
  replace k1 := k1.step hy; (try clear k1_0 k1_f0 k1_1 k1_f1 k1_2 k1_f2); have k1_0 := k1.cell 0; have k1_f0 := k1.frozen 0; have k1_1 := k1.cell 1; have k1_f1 := k1.frozen 1; have k1_2 := k1.cell 2; have k1_f2 := k1.frozen 2; simp only [List.set_cons_zero, List.set_cons_succ, List.getElem?_cons_zero, List.getElem?_cons_succ] at k1_0 k1_1 k1_2; (try clear lt_k1); have lt_k1 := k1.lt; replace k7 := k7.step hy; (try clear k7_0 k7_f0 k7_1 k7_f1 k7_2 k7_f2); have k7_0 := k7.cell 0; have k7_f0 := k7.frozen 0; have k7_1 := k7.cell 1; have k7_f1 := k7.frozen 1; have k7_2 := k7.cell 2; have k7_f2 := k7.frozen 2; simp only [List.set_cons_zero, List.set_cons_succ, List.getElem?_cons_zero, List.getElem?_cons_succ] at k7_0 k7_1 k7_2; (try clear lt_k7); have lt_k7 := k7.lt; replace k9 := k9.step hy; (try clear k9_0 k9_f0 k9_1 k9_f1 k9_2 k9_f2); have k9_0 := k9.cell 0; have k9_f0 := k9.frozen 0; have k9_1 := k9.cell 1; have k9_f1 := k9.frozen 1; have k9_2 := k9.cell 2; have k9_f2 := k9.frozen 2; simp only [List.set_cons_zero, List.set_cons_succ, List.getElem?_cons_zero, List.getElem?_cons_succ] at k9_0 k9_1 k9_2; (try clear lt_k9); have lt_k9 := k9.lt
  replace r2 := r2.step hy
  replace rL := rL.step hy
  replace r7 := r7.step hy
  replace rG := rG.step hy
  replace r9 := r9.step hy
  replace hb := hb.step hy
  clear hy
  have K2 := drr_Check_any none 0 [] 1 false w22 (by simp) Rd.nil
  rw [aw_K2] at K2
  go_wp2_with fail
  refine K2.mono ?_; rintro e w23 ⟨rfl, hy⟩
  clear K2
  replace k1 := k1.step hy; (try clear k1_0 k1_f0 k1_1 k1_f1 k1_2 k1_f2); have k1_0 := k1.cell 0; have k1_f0 := k1.frozen 0; have k1_1 := k1.cell 1; have k1_f1 := k1.frozen 1; have k1_2 := k1.cell 2; have k1_f2 := k1.frozen 2; simp only [List.set_cons_zero, List.set_cons_succ, List.getElem?_cons_zero, List.getElem?_cons_succ] at k1_0 k1_1 k1_2; (try clear lt_k1); have lt_k1 := k1.lt; replace k7 := k7.step hy; (try clear k7_0 k7_f0 k7_1 k7_f1 k7_2 k7_f2); have k7_0 := k7.cell 0; have k7_f0 := k7.frozen 0; have k7_1 := k7.cell 1; have k7_f1 := k7.frozen 1; have k7_2 := k7.cell 2; have k7_f2 := k7.frozen 2; simp only [List.set_cons_zero, List.set_cons_succ, List.getElem?_cons_zero, List.getElem?_cons_succ] at k7_0 k7_1 k7_2; (try clear lt_k7); have lt_k7 := k7.lt; replace k9 := k9.step hy; (try clear k9_0 k9_f0 k9_1 k9_f1 k9_2 k9_f2); have k9_0 := k9.cell 0; have k9_f0 := k9.frozen 0; have k9_1 := k9.cell 1; have k9_f1 := k9.frozen 1; have k9_2 := k9.cell 2; have k9_f2 := k9.frozen 2; simp only [List.set_cons_zero, List.set_cons_succ, List.getElem?_cons_zero, List.getElem?_cons_succ] at k9_0 k9_1 k9_2; (try clear lt_k9); have lt_k9 := k9.lt
  replace r2 := r2.step hy
  replace rL := rL.step hy
  replace r7 := r7.step hy
  replace rG := rG.step hy
  replace r9 := r9.step hy
  replace hb := hb.step hy
  clear hy
  have E1 := drr_Same_any A7 A2 c7 c2 aFX aF2 0 0 true false _ (by unfold maxLen; simp [aFX]) r7 r2
  rw [aw_E1] at E1
  go_wp2_with fail
  refine E1.mono ?_; rintro e w24 ⟨rfl, hy⟩
  clear E1
  replace k1 := k1.step hy; (try clear k1_0 k1_f0 k1_1 k1_f1 k1_2 k1_f2); have k1_0 := k1.cell 0; have k1_f0 := k1.frozen 0; have k1_1 := k1.cell 1; have k1_f1 := k1.frozen 1; have k1_2 := k1.cell 2; have k1_f2 := k1.frozen 2; simp only [List.set_cons_zero, List.set_cons_succ, List.getElem?_cons_zero, List.getElem?_cons_succ] at k1_0 k1_1 k1_2; (try clear lt_k1); have lt_k1 := k1.lt; replace k7 := k7.step hy; (try clear k7_0 k7_f0 k7_1 k7_f1 k7_2 k7_f2); have k7_0 := k7.cell 0; have k7_f0 := k7.frozen 0; have k7_1 := k7.cell 1; have k7_f1 := k7.frozen 1; have k7_2 := k7.cell 2; have k7_f2 := k7.frozen 2; simp only [List.set_cons_zero, List.set_cons_succ, List.getElem?_cons_zero, List.getElem?_cons_succ] at k7_0 k7_1 k7_2; (try clear lt_k7); have lt_k7 := k7.lt; replace k9 := k9.step hy; (try clear k9_0 k9_f0 k9_1 k9_f1 k9_2 k9_f2); have k9_0 := k9.cell 0; have k9_f0 := k9.frozen 0; have k9_1 := k9.cell 1; have k9_f1 := k9.frozen 1; have k9_2 := k9.cell 2; have k9_f2 := k9.frozen 2; simp only [List.set_cons_zero, List.set_cons_succ, List.getElem?_cons_zero, List.getElem?_cons_succ] at k9_0 k9_1 k9_2; (try clear lt_k9); have lt_k9 := k9.lt
  replace r2 := r2.step hy
  replace rL := rL.step hy
  replace r7 := r7.step hy
  replace rG := rG.step hy
  replace r9 := r9.step hy
  replace hb := hb.step hy
  clear hy
  have E2 := drr_Same_any A7 A7 c7 c7 aFX aFX 0 0 true true _ (by unfold maxLen; simp [aFX]) r7 r7
  rw [aw_E2] at E2
  go_wp2_with fail
  refine E2.mono ?_; rintro e w25 ⟨rfl, hy⟩
  clear E2
  replace k1 := k1.step hy; (try clear k1_0 k1_f0 k1_1 k1_f1 k1_2 k1_f2); have k1_0 := k1.cell 0; have k1_f0 := k1.frozen 0; have k1_1 := k1.cell 1; have k1_f1 := k1.frozen 1; have k1_2 := k1.cell 2; have k1_f2 := k1.frozen 2; simp only [List.set_cons_zero, List.set_cons_succ, List.getElem?_cons_zero, List.getElem?_cons_succ] at k1_0 k1_1 k1_2; (try clear lt_k1); have lt_k1 := k1.lt; replace k7 := k7.step hy; (try clear k7_0 k7_f0 k7_1 k7_f1 k7_2 k7_f2); have k7_0 := k7.cell 0; have k7_f0 := k7.frozen 0; have k7_1 := k7.cell 1; have k7_f1 := k7.frozen 1; have k7_2 := k7.cell 2; have k7_f2 := k7.frozen 2; simp only [List.set_cons_zero, List.set_cons_succ, List.getElem?_cons_zero, List.getElem?_cons_succ] at k7_0 k7_1 k7_2; (try clear lt_k7); have lt_k7 := k7.lt; replace k9 := k9.step hy; (try clear k9_0 k9_f0 k9_1 k9_f1 k9_2 k9_f2); have k9_0 := k9.cell 0; have k9_f0 := k9.frozen 0; have k9_1 := k9.cell 1; have k9_f1 := k9.frozen 1; have k9_2 := k9.cell 2; have k9_f2 := k9.frozen 2; simp only [List.set_cons_zero, List.set_cons_succ, List.getElem?_cons_zero, List.getElem?_cons_succ] at k9_0 k9_1 k9_2; (try clear lt_k9); have lt_k9 := k9.lt
  replace r2 := r2.step hy
  replace rL := rL.step hy
  replace r7 := r7.step hy
  replace rG := rG.step hy
  replace r9 := r9.step hy
  replace hb := hb.step hy
  clear hy
  go_wp2
  go_ret
  exact ⟨rfl, hb⟩
end Go.Proofs.Yteblbleehnkcmaa
