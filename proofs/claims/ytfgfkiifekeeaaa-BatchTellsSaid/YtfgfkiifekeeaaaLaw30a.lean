/- The walk of BatchChanges. -/
import Derived.Test.YtfgfkiifekeeaaaAw30
namespace Go.Proofs.Ytfgfkiifekeeaaa
open Go.RowKit Go.Shelf Go.Sort
set_option linter.unusedSimpArgs false
set_option linter.unusedVariables false

theorem bPut_len (x : Bs) (p : Pb) : (bPut x p).1.l.length ≤ x.l.length + 1 := by
  unfold bPut
  repeat' split
  all_goals simp
theorem bTake_len (x : Bs) (n : Int) : (bTake x n).1.l.length ≤ x.l.length ∧ (bTake x n).2.length ≤ x.l.length := by
  unfold bTake
  split
  · exact ⟨Nat.le_refl _, Nat.zero_le _⟩
  · dsimp only; rw [List.length_drop, List.length_take]; omega
theorem bForget_len (x : Bs) (u : ByteArray) : (bForget x u).l.length ≤ x.l.length := by
  unfold bForget
  split
  · exact Nat.le_refl _
  · exact List.length_filter_le _ _
/-- a state's value, with its probes -/
def StAt (x : Bs) : MSp := ⟨fun v => ∃ B d, v = bsV B x.l.length d x.asked x.saved, fun v w => ∃ B d, v = bsV B x.l.length d x.asked x.saved ∧ Rd w w.heap.size B (pbs x.l)⟩
theorem sts_st (x : Bs) : ∀ v, Stays ((StAt x).S v) := fun v w w' ⟨B, d, e, h⟩ hb => ⟨B, d, e, h.step hb⟩
theorem st_of {x : Bs} {d : Nat} {B : Option Addr} {w : World} (h : (StAt x).S (bsV B x.l.length d x.asked x.saved) w) : Rd w w.heap.size B (pbs x.l) := by
  obtain ⟨B', d', e, h⟩ := h
  injection e with e
  injection e with e
  injection e with e _
  injection e with e
  subst e
  exact h
theorem st_mF {args : Array Value} {g : FuncId} {w : World} {x : Bs} (h : Calls Try.prog g args w (ForgetPost w x)) : Calls Try.prog g args w (mPost (StAt x) w) :=
  h.mono fun _ _ ⟨V, he, ⟨B, d, hv, _, hr⟩, hb⟩ => ⟨V, he, ⟨B, d, hv⟩, ⟨B, d, hv, hr⟩, hb⟩
theorem st_mB {args : Array Value} {g : FuncId} {w : World} {x : Bs} (h : Calls Try.prog g args w (BackPost w x)) : Calls Try.prog g args w (mPost (StAt x) w) :=
  h.mono fun _ _ ⟨B, d, he, hr, hb⟩ => ⟨_, he, ⟨B, d, rfl⟩, ⟨B, d, rfl, hr⟩, hb⟩
theorem row_mP {args : Array Value} {g : FuncId} {w : World} {l : List Pb} (h : Calls Try.prog g args w (ProbesPost w l)) : Calls Try.prog g args w (mPost (RowAt l.length (pbs l)) w) :=
  h.mono fun _ _ ⟨B, d, he, hr, hb⟩ => ⟨_, he, ⟨B, d, rfl⟩, ⟨B, d, rfl, own_rd hr⟩, hb⟩
theorem ref_Same_self (A B : Option Addr) (c d : Nat) (x : Bs) (w : World) (hl : x.l.length ≤ 1000) (ha : Rd w w.heap.size A (pbs x.l)) (hb : Rd w w.heap.size B (pbs x.l)) :
    Calls Try.prog 14 #[bsV A x.l.length c x.asked x.saved, bsV B x.l.length d x.asked x.saved] w fun e w' => e = .returned (.bool true) ∧ Below w.heap.size w w' := by
  have h := ref30_Same_any A B c d x.l x.l x.asked x.saved x.asked x.saved w hl ha hb
  rw [decide_eq_true rfl] at h
  exact h
theorem ref_SameProbes_self (A B : Option Addr) (c d : Nat) (l : List Pb) (w : World) (hl : l.length ≤ 1000) (ha : Rd w w.heap.size A (pbs l)) (hb : Rd w w.heap.size B (pbs l)) :
    Calls Try.prog 16 #[.slice A l.length c, .slice B l.length d] w fun e w' => e = .returned (.bool true) ∧ Below w.heap.size w w' := by
  have h := ref30_SameProbes_any A B c d l l w (by unfold maxLen; omega) ha hb
  rw [decide_eq_true rfl] at h
  exact h.mono fun _ _ ⟨he, hq⟩ => ⟨he, qt_below hq⟩
set_option maxRecDepth 1000000 in
set_option maxHeartbeats 16000000 in
theorem BatchChanges_walk (A : Option Addr) (c : Nat) (l : List Pb) (a s : Int) (y z : ByteArray) (n : Int) (w : World) (hl : l.length ≤ maxLen) (hc : l.length ≤ c) (hr : Rd w w.heap.size A (pbs l)) (hm : MW w) :
    Calls Try.prog 3 #[bsV A l.length c a s, pbV ⟨y, z⟩, .int .i64 n] w fun e w' => e = .returned (.bool true) ∧ Below w.heap.size w w' := by
  have hL := fun (W : World) (h : Below w.heap.size w W) => ref30_Light_any A c l W hl ((hr.below h).more h.size)
  cases hlt : bLight l with
  | false =>
    rw [hlt] at hL
    clear hlt
    go_enter Try.func3, Try.ntmps3
    go_wp2_with fail
    refine (hL _ (by (repeat (first | with_reducible exact Below.refl _ _ | with_reducible assumption | with_reducible refine Below.drew ?_ | with_reducible refine Below.drewN ?_ _ | with_reducible refine Below.alloc1 ?_ _ | with_reducible refine Below.setCell1 ?_ (by first | omega | (simp; done) | (simp; omega)) _ | with_reducible refine Below.step ?_ (by with_reducible assumption))))).mono ?_; rintro e w1 ⟨rfl, rfl⟩
    go_wp2_with fail
    refine (awake30 _ (hm.step (by (repeat (first | with_reducible exact Below.refl _ _ | with_reducible assumption | with_reducible refine Below.drew ?_ | with_reducible refine Below.drewN ?_ _ | with_reducible refine Below.alloc1 ?_ _ | with_reducible refine Below.setCell1 ?_ (by first | omega | (simp; done) | (simp; omega)) _ | with_reducible refine Below.step ?_ (by with_reducible assumption)))))).mono ?_; rintro e w1 ⟨rfl, hb⟩
    go_wp2_with fail
    go_ret
    exact ⟨rfl, (show Below w.heap.size w _ by (repeat (first | with_reducible exact Below.refl _ _ | with_reducible assumption | with_reducible refine Below.drew ?_ | with_reducible refine Below.drewN ?_ _ | with_reducible refine Below.alloc1 ?_ _ | with_reducible refine Below.setCell1 ?_ (by first | omega | (simp; done) | (simp; omega)) _ | with_reducible refine Below.step ?_ (by with_reducible assumption)))).step hb⟩
  | true =>
  rw [hlt] at hL
  obtain ⟨hl70, hS⟩ := bLight_ok hlt
  clear hlt
  by_cases hy : y.size ≤ 100
  case neg =>
    have hyI : (100 : Int) < (y.size : Int) := by omega
    clear hy
    go_enter Try.func3, Try.ntmps3
    go_wp2_with fail
    refine (hL _ (by (repeat (first | with_reducible exact Below.refl _ _ | with_reducible assumption | with_reducible refine Below.drew ?_ | with_reducible refine Below.drewN ?_ _ | with_reducible refine Below.alloc1 ?_ _ | with_reducible refine Below.setCell1 ?_ (by first | omega | (simp; done) | (simp; omega)) _ | with_reducible refine Below.step ?_ (by with_reducible assumption))))).mono ?_; rintro e w1 ⟨rfl, rfl⟩
    go_wp2_with fail
    refine (awake30 _ (hm.step (by (repeat (first | with_reducible exact Below.refl _ _ | with_reducible assumption | with_reducible refine Below.drew ?_ | with_reducible refine Below.drewN ?_ _ | with_reducible refine Below.alloc1 ?_ _ | with_reducible refine Below.setCell1 ?_ (by first | omega | (simp; done) | (simp; omega)) _ | with_reducible refine Below.step ?_ (by with_reducible assumption)))))).mono ?_; rintro e w1 ⟨rfl, hb⟩
    go_wp2_with fail
    go_ret
    exact ⟨rfl, (show Below w.heap.size w _ by (repeat (first | with_reducible exact Below.refl _ _ | with_reducible assumption | with_reducible refine Below.drew ?_ | with_reducible refine Below.drewN ?_ _ | with_reducible refine Below.alloc1 ?_ _ | with_reducible refine Below.setCell1 ?_ (by first | omega | (simp; done) | (simp; omega)) _ | with_reducible refine Below.step ?_ (by with_reducible assumption)))).step hb⟩
  have hyI : (y.size : Int) ≤ 100 := by omega
  by_cases hz : z.size ≤ 100
  case neg =>
    have hzI : (100 : Int) < (z.size : Int) := by omega
    clear hz
    go_enter Try.func3, Try.ntmps3
    go_wp2_with fail
    refine (hL _ (by (repeat (first | with_reducible exact Below.refl _ _ | with_reducible assumption | with_reducible refine Below.drew ?_ | with_reducible refine Below.drewN ?_ _ | with_reducible refine Below.alloc1 ?_ _ | with_reducible refine Below.setCell1 ?_ (by first | omega | (simp; done) | (simp; omega)) _ | with_reducible refine Below.step ?_ (by with_reducible assumption))))).mono ?_; rintro e w1 ⟨rfl, rfl⟩
    go_wp2_with fail
    refine (awake30 _ (hm.step (by (repeat (first | with_reducible exact Below.refl _ _ | with_reducible assumption | with_reducible refine Below.drew ?_ | with_reducible refine Below.drewN ?_ _ | with_reducible refine Below.alloc1 ?_ _ | with_reducible refine Below.setCell1 ?_ (by first | omega | (simp; done) | (simp; omega)) _ | with_reducible refine Below.step ?_ (by with_reducible assumption)))))).mono ?_; rintro e w1 ⟨rfl, hb⟩
    go_wp2_with fail
    go_ret
    exact ⟨rfl, (show Below w.heap.size w _ by (repeat (first | with_reducible exact Below.refl _ _ | with_reducible assumption | with_reducible refine Below.drew ?_ | with_reducible refine Below.drewN ?_ _ | with_reducible refine Below.alloc1 ?_ _ | with_reducible refine Below.setCell1 ?_ (by first | omega | (simp; done) | (simp; omega)) _ | with_reducible refine Below.step ?_ (by with_reducible assumption)))).step hb⟩
  have hzI : (z.size : Int) ≤ 100 := by omega
  have hp : Sm ⟨y, z⟩ := ⟨hy, hz⟩
  clear hy hz
  have hl1 : l.length ≤ 1000 := by omega
  obtain ⟨P, hP⟩ : ∃ P, P = bPut ⟨l, a, s⟩ ⟨y, z⟩ := ⟨_, rfl⟩
  have qP := bPut_len ⟨l, a, s⟩ ⟨y, z⟩
  rw [← hP] at qP
  obtain ⟨T, hT⟩ : ∃ T, T = bTake ⟨l, a, s⟩ n := ⟨_, rfl⟩
  have qT := bTake_len ⟨l, a, s⟩ n
  rw [← hT] at qT
  obtain ⟨G, hG⟩ : ∃ G, G = bForget ⟨l, a, s⟩ y := ⟨_, rfl⟩
  have qG := bForget_len ⟨l, a, s⟩ y
  rw [← hG] at qG
  dsimp only at qP qT qG
  have qP1 : P.1.l.length ≤ 1000 := by omega
  have qT1 : T.1.l.length ≤ 1000 := by omega
  have qT2 : T.2.length ≤ 1000 := by omega
  have qG1 : G.l.length ≤ 1000 := by omega
  clear qP qT qG hl hl70
  have fP := fun (B : Option Addr) (d : Nat) (W : World) (hd : l.length ≤ d) (hW : MW W) (hR : Rd W W.heap.size B (pbs l)) => batch_Put_any B d l a s y z W hl1 hd hS hp hW hR
  have fP2 := fun (B : Option Addr) (d : Nat) (W : World) (hd : l.length ≤ d) (hR : Rd W W.heap.size B (pbs l)) => ref30_Put_any B d l a s y z W hl1 hd hS hp hR
  have fT := fun (B : Option Addr) (d : Nat) (W : World) (hd : l.length ≤ d) (hW : MW W) (hR : Rd W W.heap.size B (pbs l)) => batch_Take_any B d l a s n W hl1 hd hS hW hR
  have fT2 := fun (B : Option Addr) (d : Nat) (W : World) (hd : l.length ≤ d) (hR : Rd W W.heap.size B (pbs l)) => ref30_Take_any B d l a s n W hl1 hd hS hR
  have fG := fun (B : Option Addr) (d : Nat) (W : World) (hd : l.length ≤ d) (hW : MW W) (hR : Rd W W.heap.size B (pbs l)) => batch_Forget_any B d l a s y W hl1 hd hS hW hR
  have fG2 := fun (B : Option Addr) (d : Nat) (W : World) (hd : l.length ≤ d) (hR : Rd W W.heap.size B (pbs l)) => ref30_Forget_any B d l a s y W hl1 hd hS hR
  rw [← hP] at fP fP2
  rw [← hT] at fT fT2
  rw [← hG] at fG fG2
  clear hP hT hG
  go_enter Try.func3, Try.ntmps3
  go_wp2_with fail
  generalize hV : World.alloc (World.alloc w _) _ = w1
  have hb : Below w.heap.size w w1 := by subst hV; (repeat (first | with_reducible exact Below.refl _ _ | with_reducible assumption | with_reducible refine Below.drew ?_ | with_reducible refine Below.drewN ?_ _ | with_reducible refine Below.alloc1 ?_ _ | with_reducible refine Below.setCell1 ?_ (by first | omega | (simp; done) | (simp; omega)) _ | with_reducible refine Below.step ?_ (by with_reducible assumption)))
  have k0 : Bk w1 w.heap.size 24 (bsC A l.length c a s) := by subst hV; (repeat (first | with_reducible exact Bk.new' _ _ _ _ (by simp; done) | with_reducible assumption | with_reducible refine Bk.alloc ?_ _ | with_reducible refine Bk.drew ?_ | with_reducible refine Bk.drewN ?_ _ | with_reducible refine Bk.step ?_ (by with_reducible assumption) | with_reducible refine Bk.far ?_ (by first | omega | (simp; done) | (simp; omega)) _))
  have kp : Bk w1 (w.heap.size + 1) 26 (pbC ⟨y, z⟩) := by subst hV; exact Bk.new' _ _ (pbC ⟨y, z⟩) _ (by simp)
  clear hV
  refine (hL _ hb).mono ?_; rintro e w2 ⟨rfl, rfl⟩
  have rS := (hr.below hb).more hb.size
  replace hm := hm.step hb
  clear hL hr
  have k0_0 := k0.cell 0; have k0_f0 := k0.frozen 0; have k0_1 := k0.cell 1; have k0_f1 := k0.frozen 1; have k0_2 := k0.cell 2; have k0_f2 := k0.frozen 2; simp only [List.set_cons_zero, List.set_cons_succ, List.getElem?_cons_zero, List.getElem?_cons_succ] at k0_0 k0_1 k0_2; have lt_k0 := k0.lt; have kp_0 := kp.cell 0; have kp_f0 := kp.frozen 0; have kp_1 := kp.cell 1; have kp_f1 := kp.frozen 1; simp only [List.set_cons_zero, List.set_cons_succ, List.getElem?_cons_zero, List.getElem?_cons_succ] at kp_0 kp_1; have lt_kp := kp.lt
  go_wp2_with fail
  refine (law_own_any A c l a s _ hl1 rS).mono ?_; rintro e w2 ⟨VO, rfl, ⟨O, d, rfl, hd, rO⟩, hx⟩
  replace hb := hb.step hx
  replace hm := hm.step hx
  replace rS := rS.step hx
  replace k0 := k0.step hx; (try clear k0_0 k0_f0 k0_1 k0_f1 k0_2 k0_f2); have k0_0 := k0.cell 0; have k0_f0 := k0.frozen 0; have k0_1 := k0.cell 1; have k0_f1 := k0.frozen 1; have k0_2 := k0.cell 2; have k0_f2 := k0.frozen 2; simp only [List.set_cons_zero, List.set_cons_succ, List.getElem?_cons_zero, List.getElem?_cons_succ] at k0_0 k0_1 k0_2; (try clear lt_k0); have lt_k0 := k0.lt; replace kp := kp.step hx; (try clear kp_0 kp_f0 kp_1 kp_f1); have kp_0 := kp.cell 0; have kp_f0 := kp.frozen 0; have kp_1 := kp.cell 1; have kp_f1 := kp.frozen 1; simp only [List.set_cons_zero, List.set_cons_succ, List.getElem?_cons_zero, List.getElem?_cons_succ] at kp_0 kp_1; (try clear lt_kp); have lt_kp := kp.lt
  clear hx
  go_wp2_with fail
  generalize hV : World.alloc w2 _ = w3
  have hx : Below w2.heap.size w2 w3 := by subst hV; (repeat (first | with_reducible exact Below.refl _ _ | with_reducible assumption | with_reducible refine Below.drew ?_ | with_reducible refine Below.drewN ?_ _ | with_reducible refine Below.alloc1 ?_ _ | with_reducible refine Below.setCell1 ?_ (by first | omega | (simp; done) | (simp; omega)) _ | with_reducible refine Below.step ?_ (by with_reducible assumption)))
  have kO : Bk w3 w2.heap.size 31 (bsC O l.length d a s) := by subst hV; exact Bk.new w2 _ _
  clear hV
  replace hb := hb.step hx
  replace hm := hm.step hx
  replace rS := rS.step hx
  replace rO := rO.step hx
  replace k0 := k0.step hx; (try clear k0_0 k0_f0 k0_1 k0_f1 k0_2 k0_f2); have k0_0 := k0.cell 0; have k0_f0 := k0.frozen 0; have k0_1 := k0.cell 1; have k0_f1 := k0.frozen 1; have k0_2 := k0.cell 2; have k0_f2 := k0.frozen 2; simp only [List.set_cons_zero, List.set_cons_succ, List.getElem?_cons_zero, List.getElem?_cons_succ] at k0_0 k0_1 k0_2; (try clear lt_k0); have lt_k0 := k0.lt; replace kp := kp.step hx; (try clear kp_0 kp_f0 kp_1 kp_f1); have kp_0 := kp.cell 0; have kp_f0 := kp.frozen 0; have kp_1 := kp.cell 1; have kp_f1 := kp.frozen 1; simp only [List.set_cons_zero, List.set_cons_succ, List.getElem?_cons_zero, List.getElem?_cons_succ] at kp_0 kp_1; (try clear lt_kp); have lt_kp := kp.lt
  clear hx
  have kO_0 := kO.cell 0; have kO_f0 := kO.frozen 0; have kO_1 := kO.cell 1; have kO_f1 := kO.frozen 1; have kO_2 := kO.cell 2; have kO_f2 := kO.frozen 2; simp only [List.set_cons_zero, List.set_cons_succ, List.getElem?_cons_zero, List.getElem?_cons_succ] at kO_0 kO_1 kO_2; have lt_kO := kO.lt
  refine (fP O d _ hd hm rO).mono ?_; rintro e w4 ⟨VA, rfl, ⟨Aa, ca, rfl, _, ra⟩, hx⟩
  replace hb := hb.step hx
  replace hm := hm.step hx
  replace rS := rS.step hx
  replace rO := rO.step hx
  replace k0 := k0.step hx; (try clear k0_0 k0_f0 k0_1 k0_f1 k0_2 k0_f2); have k0_0 := k0.cell 0; have k0_f0 := k0.frozen 0; have k0_1 := k0.cell 1; have k0_f1 := k0.frozen 1; have k0_2 := k0.cell 2; have k0_f2 := k0.frozen 2; simp only [List.set_cons_zero, List.set_cons_succ, List.getElem?_cons_zero, List.getElem?_cons_succ] at k0_0 k0_1 k0_2; (try clear lt_k0); have lt_k0 := k0.lt; replace kp := kp.step hx; (try clear kp_0 kp_f0 kp_1 kp_f1); have kp_0 := kp.cell 0; have kp_f0 := kp.frozen 0; have kp_1 := kp.cell 1; have kp_f1 := kp.frozen 1; simp only [List.set_cons_zero, List.set_cons_succ, List.getElem?_cons_zero, List.getElem?_cons_succ] at kp_0 kp_1; (try clear lt_kp); have lt_kp := kp.lt; replace kO := kO.step hx; (try clear kO_0 kO_f0 kO_1 kO_f1 kO_2 kO_f2); have kO_0 := kO.cell 0; have kO_f0 := kO.frozen 0; have kO_1 := kO.cell 1; have kO_f1 := kO.frozen 1; have kO_2 := kO.cell 2; have kO_f2 := kO.frozen 2; simp only [List.set_cons_zero, List.set_cons_succ, List.getElem?_cons_zero, List.getElem?_cons_succ] at kO_0 kO_1 kO_2; (try clear lt_kO); have lt_kO := kO.lt
  clear hx fP
  go_wp2_with fail
  generalize hV : World.alloc w4 _ = w5
  have hx : Below w4.heap.size w4 w5 := by subst hV; (repeat (first | with_reducible exact Below.refl _ _ | with_reducible assumption | with_reducible refine Below.drew ?_ | with_reducible refine Below.drewN ?_ _ | with_reducible refine Below.alloc1 ?_ _ | with_reducible refine Below.setCell1 ?_ (by first | omega | (simp; done) | (simp; omega)) _ | with_reducible refine Below.step ?_ (by with_reducible assumption)))
  have kA : Bk w5 w4.heap.size 31 (bsC Aa P.1.l.length ca P.1.asked P.1.saved) := by subst hV; exact Bk.new w4 _ _
  clear hV
  replace hb := hb.step hx
  replace hm := hm.step hx
  replace rS := rS.step hx
  replace rO := rO.step hx
  replace ra := ra.step hx
  replace k0 := k0.step hx; (try clear k0_0 k0_f0 k0_1 k0_f1 k0_2 k0_f2); have k0_0 := k0.cell 0; have k0_f0 := k0.frozen 0; have k0_1 := k0.cell 1; have k0_f1 := k0.frozen 1; have k0_2 := k0.cell 2; have k0_f2 := k0.frozen 2; simp only [List.set_cons_zero, List.set_cons_succ, List.getElem?_cons_zero, List.getElem?_cons_succ] at k0_0 k0_1 k0_2; (try clear lt_k0); have lt_k0 := k0.lt; replace kp := kp.step hx; (try clear kp_0 kp_f0 kp_1 kp_f1); have kp_0 := kp.cell 0; have kp_f0 := kp.frozen 0; have kp_1 := kp.cell 1; have kp_f1 := kp.frozen 1; simp only [List.set_cons_zero, List.set_cons_succ, List.getElem?_cons_zero, List.getElem?_cons_succ] at kp_0 kp_1; (try clear lt_kp); have lt_kp := kp.lt; replace kO := kO.step hx; (try clear kO_0 kO_f0 kO_1 kO_f1 kO_2 kO_f2); have kO_0 := kO.cell 0; have kO_f0 := kO.frozen 0; have kO_1 := kO.cell 1; have kO_f1 := kO.frozen 1; have kO_2 := kO.cell 2; have kO_f2 := kO.frozen 2; simp only [List.set_cons_zero, List.set_cons_succ, List.getElem?_cons_zero, List.getElem?_cons_succ] at kO_0 kO_1 kO_2; (try clear lt_kO); have lt_kO := kO.lt
  clear hx
  have kA_0 := kA.cell 0; have kA_f0 := kA.frozen 0; have kA_1 := kA.cell 1; have kA_f1 := kA.frozen 1; have kA_2 := kA.cell 2; have kA_f2 := kA.frozen 2; simp only [List.set_cons_zero, List.set_cons_succ, List.getElem?_cons_zero, List.getElem?_cons_succ] at kA_0 kA_1 kA_2; have lt_kA := kA.lt
  refine (fP2 A c _ hc rS).mono ?_; rintro e w6 ⟨VB, rfl, ⟨Ab, cb, rfl, _, rb⟩, hx⟩
  replace hb := hb.step hx
  replace hm := hm.step hx
  replace rS := rS.step hx
  replace rO := rO.step hx
  replace ra := ra.step hx
  replace k0 := k0.step hx; (try clear k0_0 k0_f0 k0_1 k0_f1 k0_2 k0_f2); have k0_0 := k0.cell 0; have k0_f0 := k0.frozen 0; have k0_1 := k0.cell 1; have k0_f1 := k0.frozen 1; have k0_2 := k0.cell 2; have k0_f2 := k0.frozen 2; simp only [List.set_cons_zero, List.set_cons_succ, List.getElem?_cons_zero, List.getElem?_cons_succ] at k0_0 k0_1 k0_2; (try clear lt_k0); have lt_k0 := k0.lt; replace kp := kp.step hx; (try clear kp_0 kp_f0 kp_1 kp_f1); have kp_0 := kp.cell 0; have kp_f0 := kp.frozen 0; have kp_1 := kp.cell 1; have kp_f1 := kp.frozen 1; simp only [List.set_cons_zero, List.set_cons_succ, List.getElem?_cons_zero, List.getElem?_cons_succ] at kp_0 kp_1; (try clear lt_kp); have lt_kp := kp.lt; replace kO := kO.step hx; (try clear kO_0 kO_f0 kO_1 kO_f1 kO_2 kO_f2); have kO_0 := kO.cell 0; have kO_f0 := kO.frozen 0; have kO_1 := kO.cell 1; have kO_f1 := kO.frozen 1; have kO_2 := kO.cell 2; have kO_f2 := kO.frozen 2; simp only [List.set_cons_zero, List.set_cons_succ, List.getElem?_cons_zero, List.getElem?_cons_succ] at kO_0 kO_1 kO_2; (try clear lt_kO); have lt_kO := kO.lt; replace kA := kA.step hx; (try clear kA_0 kA_f0 kA_1 kA_f1 kA_2 kA_f2); have kA_0 := kA.cell 0; have kA_f0 := kA.frozen 0; have kA_1 := kA.cell 1; have kA_f1 := kA.frozen 1; have kA_2 := kA.cell 2; have kA_f2 := kA.frozen 2; simp only [List.set_cons_zero, List.set_cons_succ, List.getElem?_cons_zero, List.getElem?_cons_succ] at kA_0 kA_1 kA_2; (try clear lt_kA); have lt_kA := kA.lt
  clear hx fP2
  go_wp2_with fail
  generalize hV : World.alloc w6 _ = w7
  have hx : Below w6.heap.size w6 w7 := by subst hV; (repeat (first | with_reducible exact Below.refl _ _ | with_reducible assumption | with_reducible refine Below.drew ?_ | with_reducible refine Below.drewN ?_ _ | with_reducible refine Below.alloc1 ?_ _ | with_reducible refine Below.setCell1 ?_ (by first | omega | (simp; done) | (simp; omega)) _ | with_reducible refine Below.step ?_ (by with_reducible assumption)))
  have kB : Bk w7 w6.heap.size 24 (bsC Ab P.1.l.length cb P.1.asked P.1.saved) := by subst hV; exact Bk.new w6 _ _
  clear hV
  replace hb := hb.step hx
  replace hm := hm.step hx
  replace rS := rS.step hx
  replace rO := rO.step hx
  replace ra := ra.step hx
  replace rb := rb.step hx
  replace k0 := k0.step hx; (try clear k0_0 k0_f0 k0_1 k0_f1 k0_2 k0_f2); have k0_0 := k0.cell 0; have k0_f0 := k0.frozen 0; have k0_1 := k0.cell 1; have k0_f1 := k0.frozen 1; have k0_2 := k0.cell 2; have k0_f2 := k0.frozen 2; simp only [List.set_cons_zero, List.set_cons_succ, List.getElem?_cons_zero, List.getElem?_cons_succ] at k0_0 k0_1 k0_2; (try clear lt_k0); have lt_k0 := k0.lt; replace kp := kp.step hx; (try clear kp_0 kp_f0 kp_1 kp_f1); have kp_0 := kp.cell 0; have kp_f0 := kp.frozen 0; have kp_1 := kp.cell 1; have kp_f1 := kp.frozen 1; simp only [List.set_cons_zero, List.set_cons_succ, List.getElem?_cons_zero, List.getElem?_cons_succ] at kp_0 kp_1; (try clear lt_kp); have lt_kp := kp.lt; replace kO := kO.step hx; (try clear kO_0 kO_f0 kO_1 kO_f1 kO_2 kO_f2); have kO_0 := kO.cell 0; have kO_f0 := kO.frozen 0; have kO_1 := kO.cell 1; have kO_f1 := kO.frozen 1; have kO_2 := kO.cell 2; have kO_f2 := kO.frozen 2; simp only [List.set_cons_zero, List.set_cons_succ, List.getElem?_cons_zero, List.getElem?_cons_succ] at kO_0 kO_1 kO_2; (try clear lt_kO); have lt_kO := kO.lt; replace kA := kA.step hx; (try clear kA_0 kA_f0 kA_1 kA_f1 kA_2 kA_f2); have kA_0 := kA.cell 0; have kA_f0 := kA.frozen 0; have kA_1 := kA.cell 1; have kA_f1 := kA.frozen 1; have kA_2 := kA.cell 2; have kA_f2 := kA.frozen 2; simp only [List.set_cons_zero, List.set_cons_succ, List.getElem?_cons_zero, List.getElem?_cons_succ] at kA_0 kA_1 kA_2; (try clear lt_kA); have lt_kA := kA.lt
  clear hx
  have kB_0 := kB.cell 0; have kB_f0 := kB.frozen 0; have kB_1 := kB.cell 1; have kB_f1 := kB.frozen 1; have kB_2 := kB.cell 2; have kB_f2 := kB.frozen 2; simp only [List.set_cons_zero, List.set_cons_succ, List.getElem?_cons_zero, List.getElem?_cons_succ] at kB_0 kB_1 kB_2; have lt_kB := kB.lt
  refine (fT O d _ hd hm rO).mono ?_; rintro e w8 ⟨VC, Ll, cl, rfl, ⟨Ac, cc, rfl, _, rc⟩, _, rl, hx⟩
  replace hb := hb.step hx
  replace hm := hm.step hx
  replace rS := rS.step hx
  replace rO := rO.step hx
  replace ra := ra.step hx
  replace rb := rb.step hx
  replace k0 := k0.step hx; (try clear k0_0 k0_f0 k0_1 k0_f1 k0_2 k0_f2); have k0_0 := k0.cell 0; have k0_f0 := k0.frozen 0; have k0_1 := k0.cell 1; have k0_f1 := k0.frozen 1; have k0_2 := k0.cell 2; have k0_f2 := k0.frozen 2; simp only [List.set_cons_zero, List.set_cons_succ, List.getElem?_cons_zero, List.getElem?_cons_succ] at k0_0 k0_1 k0_2; (try clear lt_k0); have lt_k0 := k0.lt; replace kp := kp.step hx; (try clear kp_0 kp_f0 kp_1 kp_f1); have kp_0 := kp.cell 0; have kp_f0 := kp.frozen 0; have kp_1 := kp.cell 1; have kp_f1 := kp.frozen 1; simp only [List.set_cons_zero, List.set_cons_succ, List.getElem?_cons_zero, List.getElem?_cons_succ] at kp_0 kp_1; (try clear lt_kp); have lt_kp := kp.lt; replace kO := kO.step hx; (try clear kO_0 kO_f0 kO_1 kO_f1 kO_2 kO_f2); have kO_0 := kO.cell 0; have kO_f0 := kO.frozen 0; have kO_1 := kO.cell 1; have kO_f1 := kO.frozen 1; have kO_2 := kO.cell 2; have kO_f2 := kO.frozen 2; simp only [List.set_cons_zero, List.set_cons_succ, List.getElem?_cons_zero, List.getElem?_cons_succ] at kO_0 kO_1 kO_2; (try clear lt_kO); have lt_kO := kO.lt; replace kA := kA.step hx; (try clear kA_0 kA_f0 kA_1 kA_f1 kA_2 kA_f2); have kA_0 := kA.cell 0; have kA_f0 := kA.frozen 0; have kA_1 := kA.cell 1; have kA_f1 := kA.frozen 1; have kA_2 := kA.cell 2; have kA_f2 := kA.frozen 2; simp only [List.set_cons_zero, List.set_cons_succ, List.getElem?_cons_zero, List.getElem?_cons_succ] at kA_0 kA_1 kA_2; (try clear lt_kA); have lt_kA := kA.lt; replace kB := kB.step hx; (try clear kB_0 kB_f0 kB_1 kB_f1 kB_2 kB_f2); have kB_0 := kB.cell 0; have kB_f0 := kB.frozen 0; have kB_1 := kB.cell 1; have kB_f1 := kB.frozen 1; have kB_2 := kB.cell 2; have kB_f2 := kB.frozen 2; simp only [List.set_cons_zero, List.set_cons_succ, List.getElem?_cons_zero, List.getElem?_cons_succ] at kB_0 kB_1 kB_2; (try clear lt_kB); have lt_kB := kB.lt
  clear hx fT
  go_wp2_with fail
  generalize hV : World.alloc w8 _ = w9
  have hx : Below w8.heap.size w8 w9 := by subst hV; (repeat (first | with_reducible exact Below.refl _ _ | with_reducible assumption | with_reducible refine Below.drew ?_ | with_reducible refine Below.drewN ?_ _ | with_reducible refine Below.alloc1 ?_ _ | with_reducible refine Below.setCell1 ?_ (by first | omega | (simp; done) | (simp; omega)) _ | with_reducible refine Below.step ?_ (by with_reducible assumption)))
  have kC : Bk w9 w8.heap.size 31 (bsC Ac T.1.l.length cc T.1.asked T.1.saved) := by subst hV; exact Bk.new w8 _ _
  clear hV
  replace hb := hb.step hx
  replace hm := hm.step hx
  replace rS := rS.step hx
  replace rO := rO.step hx
  replace ra := ra.step hx
  replace rb := rb.step hx
  replace rc := rc.step hx
  replace rl := rl.step hx
  replace k0 := k0.step hx; (try clear k0_0 k0_f0 k0_1 k0_f1 k0_2 k0_f2); have k0_0 := k0.cell 0; have k0_f0 := k0.frozen 0; have k0_1 := k0.cell 1; have k0_f1 := k0.frozen 1; have k0_2 := k0.cell 2; have k0_f2 := k0.frozen 2; simp only [List.set_cons_zero, List.set_cons_succ, List.getElem?_cons_zero, List.getElem?_cons_succ] at k0_0 k0_1 k0_2; (try clear lt_k0); have lt_k0 := k0.lt; replace kp := kp.step hx; (try clear kp_0 kp_f0 kp_1 kp_f1); have kp_0 := kp.cell 0; have kp_f0 := kp.frozen 0; have kp_1 := kp.cell 1; have kp_f1 := kp.frozen 1; simp only [List.set_cons_zero, List.set_cons_succ, List.getElem?_cons_zero, List.getElem?_cons_succ] at kp_0 kp_1; (try clear lt_kp); have lt_kp := kp.lt; replace kO := kO.step hx; (try clear kO_0 kO_f0 kO_1 kO_f1 kO_2 kO_f2); have kO_0 := kO.cell 0; have kO_f0 := kO.frozen 0; have kO_1 := kO.cell 1; have kO_f1 := kO.frozen 1; have kO_2 := kO.cell 2; have kO_f2 := kO.frozen 2; simp only [List.set_cons_zero, List.set_cons_succ, List.getElem?_cons_zero, List.getElem?_cons_succ] at kO_0 kO_1 kO_2; (try clear lt_kO); have lt_kO := kO.lt; replace kA := kA.step hx; (try clear kA_0 kA_f0 kA_1 kA_f1 kA_2 kA_f2); have kA_0 := kA.cell 0; have kA_f0 := kA.frozen 0; have kA_1 := kA.cell 1; have kA_f1 := kA.frozen 1; have kA_2 := kA.cell 2; have kA_f2 := kA.frozen 2; simp only [List.set_cons_zero, List.set_cons_succ, List.getElem?_cons_zero, List.getElem?_cons_succ] at kA_0 kA_1 kA_2; (try clear lt_kA); have lt_kA := kA.lt; replace kB := kB.step hx; (try clear kB_0 kB_f0 kB_1 kB_f1 kB_2 kB_f2); have kB_0 := kB.cell 0; have kB_f0 := kB.frozen 0; have kB_1 := kB.cell 1; have kB_f1 := kB.frozen 1; have kB_2 := kB.cell 2; have kB_f2 := kB.frozen 2; simp only [List.set_cons_zero, List.set_cons_succ, List.getElem?_cons_zero, List.getElem?_cons_succ] at kB_0 kB_1 kB_2; (try clear lt_kB); have lt_kB := kB.lt
  clear hx
  have kC_0 := kC.cell 0; have kC_f0 := kC.frozen 0; have kC_1 := kC.cell 1; have kC_f1 := kC.frozen 1; have kC_2 := kC.cell 2; have kC_f2 := kC.frozen 2; simp only [List.set_cons_zero, List.set_cons_succ, List.getElem?_cons_zero, List.getElem?_cons_succ] at kC_0 kC_1 kC_2; have lt_kC := kC.lt
  refine (fT2 A c _ hc rS).mono ?_; rintro e w10 ⟨VD, Lm, cm, rfl, ⟨Ad, cd, rfl, _, rd⟩, _, rm, hx⟩
  replace hb := hb.step hx
  replace hm := hm.step hx
  replace rS := rS.step hx
  replace rO := rO.step hx
  replace ra := ra.step hx
  replace rb := rb.step hx
  replace rc := rc.step hx
  replace rl := rl.step hx
  replace k0 := k0.step hx; (try clear k0_0 k0_f0 k0_1 k0_f1 k0_2 k0_f2); have k0_0 := k0.cell 0; have k0_f0 := k0.frozen 0; have k0_1 := k0.cell 1; have k0_f1 := k0.frozen 1; have k0_2 := k0.cell 2; have k0_f2 := k0.frozen 2; simp only [List.set_cons_zero, List.set_cons_succ, List.getElem?_cons_zero, List.getElem?_cons_succ] at k0_0 k0_1 k0_2; (try clear lt_k0); have lt_k0 := k0.lt; replace kp := kp.step hx; (try clear kp_0 kp_f0 kp_1 kp_f1); have kp_0 := kp.cell 0; have kp_f0 := kp.frozen 0; have kp_1 := kp.cell 1; have kp_f1 := kp.frozen 1; simp only [List.set_cons_zero, List.set_cons_succ, List.getElem?_cons_zero, List.getElem?_cons_succ] at kp_0 kp_1; (try clear lt_kp); have lt_kp := kp.lt; replace kO := kO.step hx; (try clear kO_0 kO_f0 kO_1 kO_f1 kO_2 kO_f2); have kO_0 := kO.cell 0; have kO_f0 := kO.frozen 0; have kO_1 := kO.cell 1; have kO_f1 := kO.frozen 1; have kO_2 := kO.cell 2; have kO_f2 := kO.frozen 2; simp only [List.set_cons_zero, List.set_cons_succ, List.getElem?_cons_zero, List.getElem?_cons_succ] at kO_0 kO_1 kO_2; (try clear lt_kO); have lt_kO := kO.lt; replace kA := kA.step hx; (try clear kA_0 kA_f0 kA_1 kA_f1 kA_2 kA_f2); have kA_0 := kA.cell 0; have kA_f0 := kA.frozen 0; have kA_1 := kA.cell 1; have kA_f1 := kA.frozen 1; have kA_2 := kA.cell 2; have kA_f2 := kA.frozen 2; simp only [List.set_cons_zero, List.set_cons_succ, List.getElem?_cons_zero, List.getElem?_cons_succ] at kA_0 kA_1 kA_2; (try clear lt_kA); have lt_kA := kA.lt; replace kB := kB.step hx; (try clear kB_0 kB_f0 kB_1 kB_f1 kB_2 kB_f2); have kB_0 := kB.cell 0; have kB_f0 := kB.frozen 0; have kB_1 := kB.cell 1; have kB_f1 := kB.frozen 1; have kB_2 := kB.cell 2; have kB_f2 := kB.frozen 2; simp only [List.set_cons_zero, List.set_cons_succ, List.getElem?_cons_zero, List.getElem?_cons_succ] at kB_0 kB_1 kB_2; (try clear lt_kB); have lt_kB := kB.lt; replace kC := kC.step hx; (try clear kC_0 kC_f0 kC_1 kC_f1 kC_2 kC_f2); have kC_0 := kC.cell 0; have kC_f0 := kC.frozen 0; have kC_1 := kC.cell 1; have kC_f1 := kC.frozen 1; have kC_2 := kC.cell 2; have kC_f2 := kC.frozen 2; simp only [List.set_cons_zero, List.set_cons_succ, List.getElem?_cons_zero, List.getElem?_cons_succ] at kC_0 kC_1 kC_2; (try clear lt_kC); have lt_kC := kC.lt
  clear hx fT2
  go_wp2_with fail
  generalize hV : World.alloc w10 _ = wc
  have hx : Below w10.heap.size w10 wc := by subst hV; (repeat (first | with_reducible exact Below.refl _ _ | with_reducible assumption | with_reducible refine Below.drew ?_ | with_reducible refine Below.drewN ?_ _ | with_reducible refine Below.alloc1 ?_ _ | with_reducible refine Below.setCell1 ?_ (by first | omega | (simp; done) | (simp; omega)) _ | with_reducible refine Below.step ?_ (by with_reducible assumption)))
  have kD : Bk wc w10.heap.size 24 (bsC Ad T.1.l.length cd T.1.asked T.1.saved) := by subst hV; exact Bk.new w10 _ _
  clear hV
  replace hb := hb.step hx
  replace hm := hm.step hx
  replace rS := rS.step hx
  replace rO := rO.step hx
  replace ra := ra.step hx
  replace rb := rb.step hx
  replace rc := rc.step hx
  replace rl := rl.step hx
  replace rd := rd.step hx
  replace rm := rm.step hx
  replace k0 := k0.step hx; (try clear k0_0 k0_f0 k0_1 k0_f1 k0_2 k0_f2); have k0_0 := k0.cell 0; have k0_f0 := k0.frozen 0; have k0_1 := k0.cell 1; have k0_f1 := k0.frozen 1; have k0_2 := k0.cell 2; have k0_f2 := k0.frozen 2; simp only [List.set_cons_zero, List.set_cons_succ, List.getElem?_cons_zero, List.getElem?_cons_succ] at k0_0 k0_1 k0_2; (try clear lt_k0); have lt_k0 := k0.lt; replace kp := kp.step hx; (try clear kp_0 kp_f0 kp_1 kp_f1); have kp_0 := kp.cell 0; have kp_f0 := kp.frozen 0; have kp_1 := kp.cell 1; have kp_f1 := kp.frozen 1; simp only [List.set_cons_zero, List.set_cons_succ, List.getElem?_cons_zero, List.getElem?_cons_succ] at kp_0 kp_1; (try clear lt_kp); have lt_kp := kp.lt; replace kO := kO.step hx; (try clear kO_0 kO_f0 kO_1 kO_f1 kO_2 kO_f2); have kO_0 := kO.cell 0; have kO_f0 := kO.frozen 0; have kO_1 := kO.cell 1; have kO_f1 := kO.frozen 1; have kO_2 := kO.cell 2; have kO_f2 := kO.frozen 2; simp only [List.set_cons_zero, List.set_cons_succ, List.getElem?_cons_zero, List.getElem?_cons_succ] at kO_0 kO_1 kO_2; (try clear lt_kO); have lt_kO := kO.lt; replace kA := kA.step hx; (try clear kA_0 kA_f0 kA_1 kA_f1 kA_2 kA_f2); have kA_0 := kA.cell 0; have kA_f0 := kA.frozen 0; have kA_1 := kA.cell 1; have kA_f1 := kA.frozen 1; have kA_2 := kA.cell 2; have kA_f2 := kA.frozen 2; simp only [List.set_cons_zero, List.set_cons_succ, List.getElem?_cons_zero, List.getElem?_cons_succ] at kA_0 kA_1 kA_2; (try clear lt_kA); have lt_kA := kA.lt; replace kB := kB.step hx; (try clear kB_0 kB_f0 kB_1 kB_f1 kB_2 kB_f2); have kB_0 := kB.cell 0; have kB_f0 := kB.frozen 0; have kB_1 := kB.cell 1; have kB_f1 := kB.frozen 1; have kB_2 := kB.cell 2; have kB_f2 := kB.frozen 2; simp only [List.set_cons_zero, List.set_cons_succ, List.getElem?_cons_zero, List.getElem?_cons_succ] at kB_0 kB_1 kB_2; (try clear lt_kB); have lt_kB := kB.lt; replace kC := kC.step hx; (try clear kC_0 kC_f0 kC_1 kC_f1 kC_2 kC_f2); have kC_0 := kC.cell 0; have kC_f0 := kC.frozen 0; have kC_1 := kC.cell 1; have kC_f1 := kC.frozen 1; have kC_2 := kC.cell 2; have kC_f2 := kC.frozen 2; simp only [List.set_cons_zero, List.set_cons_succ, List.getElem?_cons_zero, List.getElem?_cons_succ] at kC_0 kC_1 kC_2; (try clear lt_kC); have lt_kC := kC.lt
  clear hx
  have kD_0 := kD.cell 0; have kD_f0 := kD.frozen 0; have kD_1 := kD.cell 1; have kD_f1 := kD.frozen 1; have kD_2 := kD.cell 2; have kD_f2 := kD.frozen 2; simp only [List.set_cons_zero, List.set_cons_succ, List.getElem?_cons_zero, List.getElem?_cons_succ] at kD_0 kD_1 kD_2; have lt_kD := kD.lt
  refine wp_region_m [(1, StAt P.1), (3, only (.bool true)), (11, StAt T.1), (13, only (.bool true)), (17, RowAt T.2.length (pbs T.2)), (19, only (.bool true)), (25, StAt G), (26, StAt G), (30, StAt G), (31, only (.bool true)), (35, StAt ⟨l, a, s⟩), (37, only (.bool true)), (40, only (.bool true))] (by kernel_rfl) (by kernel_rfl) (by kernel_rfl) (by kernel_rfl) (sts_cons (sts_st _) (sts_cons (sts_only _) (sts_cons (sts_st _) (sts_cons (sts_only _) (sts_cons (sts_row _ _) (sts_cons (sts_only _) (sts_cons (sts_st _) (sts_cons (sts_st _) (sts_cons (sts_st _) (sts_cons (sts_only _) (sts_cons (sts_st _) (sts_cons (sts_only _) (sts_cons (sts_only _) sts_nil))))))))))))) (fun kq => ?_); (try dsimp only [List.append])
  (repeat (refine wpM_via (by kernel_rfl) ?_; go_big_quiet_step (fail); refine wpQuiet_nil ?_))
  (refine wpM_spec _ (StAt P.1) (by kernel_rfl) (by kernel_rfl) rfl (later_some _) ?_ ?_; (focus (intro x hx hk; obtain ⟨px, rfl⟩ := hx; go_simp; (first | with_reducible refine mUpon_enter ?_ | with_reducible refine mUpon_value ?_); go_at_call 15; exact st_mB (law_Back_any Aa ca P.1.l P.1.asked P.1.saved _ qP1 (ra.step (below_regrown wc _ _))))); intro v hv K hK; obtain ⟨E1, e1, rfl⟩ := hv; go_big_quiet_op; refine hK _ ?_; clear hK K)
  (repeat (refine wpM_via (by kernel_rfl) ?_; go_big_quiet_step (fail); refine wpQuiet_nil ?_))
  (refine wpM_only _ (.bool true) (by kernel_rfl) (by kernel_rfl) rfl (later_some _) ?_ ?_; (focus (intro x hx hk; obtain ⟨px, rfl⟩ := hx; go_simp; (first | with_reducible refine mUpon_enter ?_ | with_reducible refine mUpon_value ?_); go_at_call 14; exact (ref_Same_self E1 Ab e1 cb P.1 _ qP1 (st_of (hk.1 (by kernel_rfl))) (rb.step (below_regrown wc _ _))).mo)); intro K hK; go_big_quiet_op; refine hK _ ?_; clear hK K)
  (repeat (refine wpM_via (by kernel_rfl) ?_; go_big_quiet_step (fail); refine wpQuiet_nil ?_))
  (refine wpM_spec _ (StAt T.1) (by kernel_rfl) (by kernel_rfl) rfl (later_some _) ?_ ?_; (focus (intro x hx hk; obtain ⟨px, rfl⟩ := hx; go_simp; (first | with_reducible refine mUpon_enter ?_ | with_reducible refine mUpon_value ?_); go_at_call 15; exact st_mB (law_Back_any Ac cc T.1.l T.1.asked T.1.saved _ qT1 (rc.step (below_regrown wc _ _))))); intro v hv K hK; obtain ⟨E2, e2, rfl⟩ := hv; go_big_quiet_op; refine hK _ ?_; clear hK K)
  (repeat (refine wpM_via (by kernel_rfl) ?_; go_big_quiet_step (fail); refine wpQuiet_nil ?_))
  (refine wpM_only _ (.bool true) (by kernel_rfl) (by kernel_rfl) rfl (later_some _) ?_ ?_; (focus (intro x hx hk; obtain ⟨px, rfl⟩ := hx; go_simp; (first | with_reducible refine mUpon_enter ?_ | with_reducible refine mUpon_value ?_); go_at_call 14; exact (ref_Same_self E2 Ad e2 cd T.1 _ qT1 (st_of (hk.1 (by kernel_rfl))) (rd.step (below_regrown wc _ _))).mo)); intro K hK; go_big_quiet_op; refine hK _ ?_; clear hK K)
  (repeat (refine wpM_via (by kernel_rfl) ?_; go_big_quiet_step (fail); refine wpQuiet_nil ?_))
  (refine wpM_spec _ (RowAt T.2.length (pbs T.2)) (by kernel_rfl) (by kernel_rfl) rfl (later_some _) ?_ ?_; (focus (intro x hx hk; obtain ⟨px, rfl⟩ := hx; go_simp; (first | with_reducible refine mUpon_enter ?_ | with_reducible refine mUpon_value ?_); go_at_call 17; exact row_mP (law_probes_any Ll cl T.2 _ qT2 (rl.step (below_regrown wc _ _))))); intro v hv K hK; obtain ⟨E3, e3, rfl⟩ := hv; go_big_quiet_op; refine hK _ ?_; clear hK K)
  (repeat (refine wpM_via (by kernel_rfl) ?_; go_big_quiet_step (fail); refine wpQuiet_nil ?_))
  (refine wpM_only _ (.bool true) (by kernel_rfl) (by kernel_rfl) rfl (later_some _) ?_ ?_; (focus (intro x hx hk; obtain ⟨px, rfl⟩ := hx; go_simp; (first | with_reducible refine mUpon_enter ?_ | with_reducible refine mUpon_value ?_); go_at_call 16; exact (ref_SameProbes_self E3 Lm e3 cm T.2 _ qT2 (row_of (hk.1 (by kernel_rfl))) (rm.step (below_regrown wc _ _))).mo)); intro K hK; go_big_quiet_op; refine hK _ ?_; clear hK K)
  (repeat (refine wpM_via (by kernel_rfl) ?_; go_big_quiet_step (fail); refine wpQuiet_nil ?_))
  (refine wpM_spec _ (StAt G) (by kernel_rfl) (by kernel_rfl) rfl (later_some _) ?_ ?_; (focus (intro x hx hk; obtain ⟨px, rfl⟩ := hx; go_simp; (first | with_reducible refine mUpon_enter ?_ | with_reducible refine mUpon_value ?_); go_at_call 18; exact st_mF (fG O d _ hd (hm.step (below_regrown wc _ _)) (rO.step (below_regrown wc _ _))))); intro v hv K hK; obtain ⟨E4, e4, rfl⟩ := hv; go_big_quiet_op; refine hK _ ?_; clear hK K)
  (repeat (refine wpM_via (by kernel_rfl) ?_; go_big_quiet_step (fail); refine wpQuiet_nil ?_))
  (refine wpM_spec _ (StAt G) (by kernel_rfl) (by kernel_rfl) rfl (later_some _) ?_ ?_; (focus (intro x hx hk; obtain ⟨px, rfl⟩ := hx; go_simp; (first | with_reducible refine mUpon_enter ?_ | with_reducible refine mUpon_value ?_); go_at_call 15; exact st_mB (law_Back_any E4 e4 G.l G.asked G.saved _ qG1 (st_of (hk.1 (by kernel_rfl)))))); intro v hv K hK; obtain ⟨E5, e5, rfl⟩ := hv; go_big_quiet_op; refine hK _ ?_; clear hK K)
  (repeat (refine wpM_via (by kernel_rfl) ?_; go_big_quiet_step (fail); refine wpQuiet_nil ?_))
  (refine wpM_spec _ (StAt G) (by kernel_rfl) (by kernel_rfl) rfl (later_some _) ?_ ?_; (focus (intro x hx hk; obtain ⟨px, rfl⟩ := hx; go_simp; (first | with_reducible refine mUpon_enter ?_ | with_reducible refine mUpon_value ?_); go_at_call 19; exact st_mF (fG2 A c _ hc (rS.step (below_regrown wc _ _))))); intro v hv K hK; obtain ⟨E6, e6, rfl⟩ := hv; go_big_quiet_op; refine hK _ ?_; clear hK K)
  (repeat (refine wpM_via (by kernel_rfl) ?_; go_big_quiet_step (fail); refine wpQuiet_nil ?_))
  (refine wpM_only _ (.bool true) (by kernel_rfl) (by kernel_rfl) rfl (later_some _) ?_ ?_; (focus (intro x hx hk; obtain ⟨px, rfl⟩ := hx; go_simp; (first | with_reducible refine mUpon_enter ?_ | with_reducible refine mUpon_value ?_); go_at_call 14; exact (ref_Same_self E5 E6 e5 e6 G _ qG1 (st_of (hk.2.1 (by kernel_rfl))) (st_of (hk.1 (by kernel_rfl)))).mo)); intro K hK; go_big_quiet_op; refine hK _ ?_; clear hK K)
  (repeat (refine wpM_via (by kernel_rfl) ?_; go_big_quiet_step (fail); refine wpQuiet_nil ?_))
  (refine wpM_spec _ (StAt ⟨l, a, s⟩) (by kernel_rfl) (by kernel_rfl) rfl (later_some _) ?_ ?_; (focus (intro x hx hk; obtain ⟨px, rfl⟩ := hx; go_simp; (first | with_reducible refine mUpon_enter ?_ | with_reducible refine mUpon_value ?_); go_at_call 15; exact st_mB (law_Back_any O d l a s _ hl1 (rO.step (below_regrown wc _ _))))); intro v hv K hK; obtain ⟨E7, e7, rfl⟩ := hv; go_big_quiet_op; refine hK _ ?_; clear hK K)
  (repeat (refine wpM_via (by kernel_rfl) ?_; go_big_quiet_step (fail); refine wpQuiet_nil ?_))
  (refine wpM_only _ (.bool true) (by kernel_rfl) (by kernel_rfl) rfl (later_some _) ?_ ?_; (focus (intro x hx hk; obtain ⟨px, rfl⟩ := hx; go_simp; (first | with_reducible refine mUpon_enter ?_ | with_reducible refine mUpon_value ?_); go_at_call 14; exact (ref_Same_self E7 A e7 c ⟨l, a, s⟩ _ hl1 (st_of (x := ⟨l, a, s⟩) (hk.1 (by kernel_rfl))) (rS.step (below_regrown wc _ _))).mo)); intro K hK; go_big_quiet_op; refine hK _ ?_; clear hK K)
  (repeat (refine wpM_via (by kernel_rfl) ?_; go_big_quiet_step (fail); refine wpQuiet_nil ?_))
  (refine wpM_only _ (.bool true) (by kernel_rfl) (by kernel_rfl) rfl (later_some _) ?_ ?_; (focus (intro x hx hk; obtain ⟨px, rfl⟩ := hx; go_simp; (first | with_reducible refine mUpon_enter ?_ | with_reducible refine mUpon_value ?_); go_at_call 8; exact (awake30 _ (hm.step (below_regrown wc _ _))).mo)); intro K hK; go_big_quiet_op; refine hK _ ?_; clear hK K)
  (repeat (refine wpM_via (by kernel_rfl) ?_; go_big_quiet_step (fail); refine wpQuiet_nil ?_))
  refine wpM_nil ?_; intro wq hwq hfq; have hbq := below_of_class hwq; clear hwq kq; (try dsimp only [List.drop])
  go_wp2_with fail
  go_ret
  exact ⟨rfl, hb.step hbq⟩
end Go.Proofs.Ytfgfkiifekeeaaa
