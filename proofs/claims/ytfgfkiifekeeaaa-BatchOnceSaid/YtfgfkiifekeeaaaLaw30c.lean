/- The walk of BatchOnce. -/
import Derived.Test.YtfgfkiifekeeaaaC2
import Derived.Test.YtfgfkiifekeeaaaRel6
import Derived.Deep.DeepCutAuto
namespace Go.Proofs.Ytfgfkiifekeeaaa
open Go.RowKit Go.Shelf Go.Sort
set_option linter.unusedSimpArgs false
set_option linter.unusedVariables false

/-- it lies in a block of what came in -/
def FrS (A0 A : Option Addr) : Prop := ∀ ad, A = some ad → ∃ ad0, A0 = some ad0 ∧ ad.block = ad0.block
def BsS (A0 : Option Addr) (w : World) (V : Value) (x : Bs) : Prop := ∃ A c, V = bsV A x.l.length c x.asked x.saved ∧ x.l.length ≤ c ∧ Rd w w.heap.size A (pbs x.l) ∧ FrS A0 A
def TakeS (w : World) (A0 : Option Addr) (x : Bs × List Pb) (e : Ending) (w' : World) : Prop := ∃ V A c, e = .returned (.tuple #[V, .slice A x.2.length c]) ∧ BsS A0 w' V x.1 ∧ FrS A0 A ∧ x.2.length ≤ c ∧ Rd w' w'.heap.size A (pbs x.2) ∧ Below w.heap.size w w'

set_option maxRecDepth 1000000 in
set_option maxHeartbeats 8000000 in
theorem batch_Take_fs (A : Option Addr) (c : Nat) (l : List Pb) (a s n : Int) (w : World) (hl : l.length ≤ 1000) (hc : l.length ≤ c) (hS : ∀ x ∈ l, Sm x) (hm : MW w) (ha : Rd w w.heap.size A (pbs l)) :
    Calls Try.prog 12 #[bsV A l.length c a s, .int .i64 n] w (TakeS w A (bTake ⟨l, a, s⟩ n)) := by
  have HC := fun (W : World) (h : Below w.heap.size w W) => batch_Check_any A c l a s W hl hc hS (hm.step h) ((ha.below h).more h.size)
  obtain ⟨R, hR⟩ : ∃ R, R = bTake ⟨l, a, s⟩ n := ⟨_, rfl⟩
  rw [← hR]
  unfold bTake at hR
  dsimp only at hR
  have hok : bCheck ⟨l, a, s⟩ = 0 → Hid (l.length ≤ 64 ∧ bIn a = true) := fun h => ⟨(bCheck_ok h).1, (bCheck_ok h).2.2.2.1⟩
  obtain ⟨hk1, hk2⟩ := bCut_le n l.length
  generalize bCheck ⟨l, a, s⟩ = C at *
  generalize bCut n l.length = k at *
  replace hR := hide hR
  replace hok := hide hok
  have hel : Try.prog.elem 29 = 60 := by kernel_rfl
  have hsz : ∀ W, (sizeOf 60).run Try.prog W = .ok 2 W := fun W => by kernel_rfl
  obtain ⟨A2, hA2, hF2, sf1, sf2⟩ := from_runF Try.underlying29 hel hsz A k l.length c (k : Int) rfl hk1 hc
  obtain ⟨st1, st2⟩ := to_runB Try.underlying29 hel hsz A k l.length c (by omega)
  have HA2 := hide hA2
  replace hF2 := hide hF2
  have HK2 := hide hk2
  clear hA2 hk2 hsz hel
  go_enter Try.func12, Try.ntmps12
  go_wp2_with fail
  generalize hV : World.alloc (World.alloc w _) _ = w1
  have hb : Below w.heap.size w w1 := by subst hV; (repeat (first | with_reducible exact Below.refl _ _ | with_reducible assumption | with_reducible refine Below.drew ?_ | with_reducible refine Below.drewN ?_ _ | with_reducible refine Below.alloc1 ?_ _ | with_reducible refine Below.setCell1 ?_ (by first | omega | (simp; done) | (simp; omega)) _ | with_reducible refine Below.step ?_ (by with_reducible assumption)))
  have k3 : Bk w1 w.heap.size 31 (bsC A l.length c a s) := by subst hV; (repeat (first | with_reducible exact Bk.new' _ _ _ _ (by simp; done) | with_reducible assumption | with_reducible refine Bk.alloc ?_ _ | with_reducible refine Bk.drew ?_ | with_reducible refine Bk.drewN ?_ _ | with_reducible refine Bk.step ?_ (by with_reducible assumption) | with_reducible refine Bk.far ?_ (by first | omega | (simp; done) | (simp; omega)) _))
  have k6 : Bk w1 (w.heap.size + 1) 31 (bsC none 0 0 0 0) := by subst hV; (repeat (first | with_reducible exact Bk.new' _ _ _ _ (by simp; done) | with_reducible assumption | with_reducible refine Bk.alloc ?_ _ | with_reducible refine Bk.drew ?_ | with_reducible refine Bk.drewN ?_ _ | with_reducible refine Bk.step ?_ (by with_reducible assumption) | with_reducible refine Bk.far ?_ (by first | omega | (simp; done) | (simp; omega)) _))
  clear hV
  refine (HC _ hb).mono ?_; rintro e w2 ⟨rfl, hx⟩
  replace hb := hb.step hx
  replace k3 := k3.step hx
  replace k6 := k6.step hx
  clear hx HC
  have k3_0 := k3.cell 0; have k3_f0 := k3.frozen 0; have k3_1 := k3.cell 1; have k3_f1 := k3.frozen 1; have k3_2 := k3.cell 2; have k3_f2 := k3.frozen 2; simp only [List.set_cons_zero, List.set_cons_succ, List.getElem?_cons_zero, List.getElem?_cons_succ] at k3_0 k3_1 k3_2; have lt_k3 := k3.lt; have k6_0 := k6.cell 0; have k6_f0 := k6.frozen 0; have k6_1 := k6.cell 1; have k6_f1 := k6.frozen 1; have k6_2 := k6.cell 2; have k6_f2 := k6.frozen 2; simp only [List.set_cons_zero, List.set_cons_succ, List.getElem?_cons_zero, List.getElem?_cons_succ] at k6_0 k6_1 k6_2; have lt_k6 := k6.lt
  by_cases hC0 : C ≠ 0
  · have e0 : (C != 0) = true := by simpa using hC0
    replace hR := hide (hR.out.trans (if_pos hC0))
    clear hC0 hok st1 st2 sf1 sf2
    go_wp2_with (first | (refine wpList_store_row rfl 31 _ _ rfl _ (bsC A l.length c a s).toArray rfl rfl _ _ k6 (by kernel_rfl) (by kernel_rfl) (by kernel_rfl) ?_))
    have r6 := k6.srow (bsC A l.length c a s)
    have hbr := srow_below hb (Nat.le_succ w.heap.size) (bsC A l.length c a s).toArray
    exact bodyPost_ret (v := .tuple #[bsV A l.length c a s, .slice none 0 0]) (results_row_val rfl _ _ _ _ _ _ _ rfl rfl r6 Try.underlying31 rfl (by kernel_rfl)) rfl ⟨_, none, 0, by rw [hR.out]; rfl, by rw [hR.out]; exact ⟨A, c, rfl, hc, (ha.below hbr).more hbr.size, fun ad e => ⟨ad, e, rfl⟩⟩, (fun ad e => by cases e), by rw [hR.out]; exact Nat.zero_le _, by rw [hR.out]; exact Rd.nil, hbr⟩
  obtain rfl : C = 0 := Classical.not_not.1 hC0
  clear hC0
  have hok2 := hok.out rfl
  replace hR := hide (hR.out.trans (if_neg (fun h => h rfl)))
  clear hok
  have hs := bIn_iff hok2.out.2
  have h64 := hok2.out.1
  obtain ⟨h0, h1⟩ := hs
  have hk2 := HK2.out
  clear hok2 HK2
  go_upto_region 6 with fail
  generalize hV : World.setCell w2 _ _ = w3
  replace hb : Below w.heap.size w w3 := by subst hV; exact hb.setCell (Nat.le_refl _) _
  have kA : Bk w3 w.heap.size 31 (bsC A2 (l.length - k) (c - k) a s) := by subst hV; exact k3.set_ 0 _
  have kB : Bk w3 (w.heap.size + 1) 31 (bsC none 0 0 0 0) := by subst hV; exact k6.far (by dsimp only; omega) _
  clear hV
  (try clear k3_0 k3_f0 k3_1 k3_f1 k3_2 k3_f2 lt_k3) ; (try clear k6_0 k6_f0 k6_1 k6_f1 k6_2 k6_f2 lt_k6)
  clear k3 k6 st1 st2 sf1 sf2 hk2
  have kA_0 := kA.cell 0; have kA_f0 := kA.frozen 0; have kA_1 := kA.cell 1; have kA_f1 := kA.frozen 1; have kA_2 := kA.cell 2; have kA_f2 := kA.frozen 2; simp only [List.set_cons_zero, List.set_cons_succ, List.getElem?_cons_zero, List.getElem?_cons_succ] at kA_0 kA_1 kA_2; have lt_kA := kA.lt; have kB_0 := kB.cell 0; have kB_f0 := kB.frozen 0; have kB_1 := kB.cell 1; have kB_f1 := kB.frozen 1; have kB_2 := kB.cell 2; have kB_f2 := kB.frozen 2; simp only [List.set_cons_zero, List.set_cons_succ, List.getElem?_cons_zero, List.getElem?_cons_succ] at kB_0 kB_1 kB_2; have lt_kB := kB.lt
  go_upto_region 7 with fail
  generalize hV : World.setCell w3 _ _ = w4
  replace hb : Below w.heap.size w w4 := by subst hV; exact hb.setCell (Nat.le_refl _) _
  have kA' : Bk w4 w.heap.size 31 (bsC A2 (l.length - k) (c - k) (min (a + k) 1099511627776) s) := by subst hV; exact kA.set_ 1 _
  have kB' : Bk w4 (w.heap.size + 1) 31 (bsC none 0 0 0 0) := by subst hV; exact kB.far (by dsimp only; omega) _
  clear hV
  (try clear kA_0 kA_f0 kA_1 kA_f1 kA_2 kA_f2 lt_kA) ; (try clear kB_0 kB_f0 kB_1 kB_f1 kB_2 kB_f2 lt_kB)
  clear kA kB
  obtain ⟨kA, _⟩ := And.intro kA' trivial
  obtain ⟨kB, _⟩ := And.intro kB' trivial
  clear kA' kB'
  have kA_0 := kA.cell 0; have kA_f0 := kA.frozen 0; have kA_1 := kA.cell 1; have kA_f1 := kA.frozen 1; have kA_2 := kA.cell 2; have kA_f2 := kA.frozen 2; simp only [List.set_cons_zero, List.set_cons_succ, List.getElem?_cons_zero, List.getElem?_cons_succ] at kA_0 kA_1 kA_2; have lt_kA := kA.lt; have kB_0 := kB.cell 0; have kB_f0 := kB.frozen 0; have kB_1 := kB.cell 1; have kB_f1 := kB.frozen 1; have kB_2 := kB.cell 2; have kB_f2 := kB.frozen 2; simp only [List.set_cons_zero, List.set_cons_succ, List.getElem?_cons_zero, List.getElem?_cons_succ] at kB_0 kB_1 kB_2; have lt_kB := kB.lt
  go_wp2_with (first | (refine wpList_store_row rfl 31 _ _ rfl _ (bsC A2 (l.length - k) (c - k) (min (a + k) 1099511627776) s).toArray rfl rfl _ _ kB (by kernel_rfl) (by kernel_rfl) (by kernel_rfl) ?_))
  have r6 := kB.srow (bsC A2 (l.length - k) (c - k) (min (a + k) 1099511627776) s)
  have hbr := srow_below hb (Nat.le_succ w.heap.size) (bsC A2 (l.length - k) (c - k) (min (a + k) 1099511627776) s).toArray
  have hra := (ha.below hbr).more hbr.size
  refine bodyPost_ret (v := .tuple #[bsV A2 (l.length - k) (c - k) (min (a + k) 1099511627776) s, .slice A k k]) (results_row_val rfl _ _ _ _ _ _ _ rfl rfl r6 Try.underlying31 rfl (by kernel_rfl)) rfl ?_
  refine ⟨bsV A2 (l.length - k) (c - k) (min (a + k) 1099511627776) s, A, k, ?_, ?_, fun ad e => ⟨ad, e, rfl⟩, ?_, ?_, hbr⟩
  · rw [hR.out]; simp only [List.length_take, Nat.min_eq_left hk1]
  · rw [hR.out]
    exact ⟨A2, c - k, by simp only [List.length_drop], by simp only [List.length_drop]; omega, by rw [← pbs_drop]; exact HA2.out _ _ _ hra (by rw [pbs_length]; omega), hF2.out⟩
  · rw [hR.out]; simp only [List.length_take]; omega
  · rw [hR.out]; dsimp only; rw [← pbs_take]; exact hra.take _

/-- what Take gives back, in a region that draws its order -/
def TkF (A0 : Option Addr) (T : Bs × List Pb) : MSp :=
  ⟨fun v => ∃ A d E f, v = .tuple #[bsV A T.1.l.length d T.1.asked T.1.saved, .slice E T.2.length f],
   fun v w => ∃ A d E f, v = .tuple #[bsV A T.1.l.length d T.1.asked T.1.saved, .slice E T.2.length f] ∧ T.1.l.length ≤ d ∧ Rd w w.heap.size A (pbs T.1.l) ∧ Rd w w.heap.size E (pbs T.2) ∧ FrS A0 A ∧ FrS A0 E⟩
theorem sts_tkF (A0 : Option Addr) (T : Bs × List Pb) : ∀ v, Stays ((TkF A0 T).S v) := fun v w w' ⟨A, d, E, f, e, h1, h2, h3, h4⟩ hb => ⟨A, d, E, f, e, h1, h2.step hb, h3.step hb, h4⟩
theorem tkF_of {A0 : Option Addr} {T : Bs × List Pb} {A E : Option Addr} {d f : Nat} {w : World} (h : (TkF A0 T).S (.tuple #[bsV A T.1.l.length d T.1.asked T.1.saved, .slice E T.2.length f]) w) :
    T.1.l.length ≤ d ∧ Rd w w.heap.size A (pbs T.1.l) ∧ Rd w w.heap.size E (pbs T.2) ∧ FrS A0 A ∧ FrS A0 E := by
  obtain ⟨A', d', E', f', e, h1, h2, h3, h4⟩ := h
  injection e with e
  injection e with e
  injection e with e1 e2
  injection e2 with e2 _
  injection e2 with e2
  injection e1 with e1
  injection e1 with e1
  injection e1 with e1 _
  injection e1 with e1 _ e3
  subst e1 e2 e3
  exact ⟨h1, h2, h3, h4⟩
theorem tkF_m {args : Array Value} {g : FuncId} {w : World} {A0 : Option Addr} {T : Bs × List Pb} (h : Calls Try.prog g args w (TakeS w A0 T)) : Calls Try.prog g args w (mPost (TkF A0 T) w) :=
  h.mono fun _ _ ⟨V, E, f, he, ⟨A, d, hv, hd, hr, hF⟩, hE, _, hr2, hb⟩ => ⟨_, he, ⟨A, d, E, f, by rw [hv]⟩, ⟨A, d, E, f, by rw [hv], hd, hr, hr2, hF, hE⟩, hb⟩
theorem Ap.frS {g : Nat} {w w' : World} {A A' W : Option Addr} (h : Ap g w A W) (hF : FrS A A') (hs : w.heap.size ≤ w'.heap.size) : Ap g w' A' W := by
  refine ⟨fun ad e => ?_, fun ad aw e e2 => ?_⟩
  · obtain ⟨ad0, e0, h1⟩ := hF ad e
    have := h.1 ad0 e0; omega
  · obtain ⟨ad0, e0, h1⟩ := hF ad e
    rw [h1]; exact h.2 ad0 aw e0 e2
theorem bPut_wayB {x : Bs} {p : Pb} (h : bCheck x = 0) (hf : bFine p = true) (B : Bool) (hB : decide (p ∈ x.l) = B) : (B = true ∧ (bPut x p).2 = 0 ∧ (bPut x p).1.l = x.l ∧ (bPut x p).1.asked = x.asked) ∨ (B = false ∧ x.l.length = 64 ∧ (bPut x p).2 = 7 ∧ (bPut x p).1.l = x.l ∧ (bPut x p).1.asked = x.asked) ∨
    (B = false ∧ x.l.length < 64 ∧ (bPut x p).2 = 0 ∧ (bPut x p).1.l = x.l ++ [p] ∧ (bPut x p).1.asked = x.asked) := by
  rcases bPut_ways h hf with ⟨h1, h2⟩ | ⟨h1, h2⟩ | ⟨h1, h2⟩
  · exact .inl ⟨by rw [← hB]; exact decide_eq_true h1, h2⟩
  · exact .inr (.inl ⟨by rw [← hB]; exact decide_eq_false h1, h2⟩)
  · exact .inr (.inr ⟨by rw [← hB]; exact decide_eq_false h1, h2⟩)
theorem Bk.gr1 {w w' : World} {k : Nat} {t : TypeId} {cs : List Value} {row : Option Nat} (h : Bk w k t cs) (hg : w.grownBy w' row) (hne : ∀ j, row = some j → j ≠ k) : Bk w' k t cs :=
  (hg.block k h.lt (fun e => hne k e.symm rfl)).trans h
theorem take_once {x : Bs} {t : Nat} (h : Gd x) (h0 : 0 ≤ x.asked) (ha : x.asked ≤ 6400) : (bTake x t).1.l = x.l.drop (bTake x t).2.length ∧ (∀ j (h1 : j < (bTake x t).2.length) (h2 : j < x.l.length), (bTake x t).2[j] = x.l[j]) ∧ (bTake x t).2.length ≤ x.l.length ∧ ((bTake x t).2.length : Int) = min (t : Int) (x.l.length : Int) ∧ (bTake x t).1.asked = x.asked + (bTake x t).2.length := by
  have hl := h.len
  have hc := bCut_le (t : Int) x.l.length
  have e : bTake x t = (⟨x.l.drop (bCut t x.l.length), min (x.asked + bCut t x.l.length) 1099511627776, x.saved⟩, x.l.take (bCut t x.l.length)) := by
    unfold bTake; rw [if_neg (fun h' => h' h.1)]
  rw [e]
  dsimp only
  have e2 : (x.l.take (bCut (t : Int) x.l.length)).length = bCut (t : Int) x.l.length := by rw [List.length_take]; omega
  refine ⟨by rw [e2], fun j h1 h2 => by rw [List.getElem_take], by rw [e2]; exact hc.1, by rw [e2]; omega, by rw [e2]; omega⟩
theorem forget_l {x : Bs} {u : ByteArray} (h : Gd x) : (bForget x u).l = x.l.filter (fun p => !decide (p.who = u)) ∧ (bForget x u).asked = x.asked := by
  unfold bForget
  rw [if_neg (fun h' => h' h.1)]
  exact ⟨rfl, rfl⟩
theorem filt_snoc2 (l : List Pb) (u : ByteArray) (k : Nat) (h : k < l.length) : (l.take (k + 1)).filter (fun p => !decide (p.who = u)) = (l.take k).filter (fun p => !decide (p.who = u)) ++ if l[k].who = u then [] else [l[k]] := by
  rw [take_snocL l k h, List.filter_append]
  by_cases e : l[k].who = u <;> simp [e]
set_option maxRecDepth 1000000 in
set_option maxHeartbeats 32000000 in
theorem BatchOnce_walk (D : Option Addr) (c : Nat) (ds : List Dd) (w : World) (hds : ds.length ≤ maxLen) (hB : ∀ x ∈ ds, DdB x) (hr : Rd w w.heap.size D (dds ds)) (hm : MW w) :
    Calls Try.prog 5 #[.slice D ds.length c] w fun e w' => e = .returned (.bool true) ∧ Below w.heap.size w w' := by
  by_cases h100 : 100 < ds.length
  · have g1 : (100 : Int) < (ds.length : Int) := by omega
    clear h100
    unfold maxLen at hds
    go_enter Try.func5, Try.ntmps5
    go_wp2_with fail
    refine (awake30 _ hm).mono ?_; rintro e w1 ⟨rfl, hb⟩
    go_wp2_with fail
    go_ret
    exact ⟨rfl, hb⟩
  have g1 : (ds.length : Int) ≤ 100 := by omega
  clear h100 hds
  obtain ⟨iT, hi, hz0, hz1, hz2⟩ := info_parts pb_info
  have hel : Try.prog.elem 29 = 60 := by kernel_rfl
  have hsz : Hid (∀ W, (sizeOf 60).run Try.prog W = .ok 2 W) := fun W => by kernel_rfl
  replace hel := hide hel
  go_enter Try.func5, Try.ntmps5
  go_wp2_with fail
  generalize hV : World.alloc w _ = w1
  have hb : Below w.heap.size w w1 := by subst hV; (repeat (first | with_reducible exact Below.refl _ _ | with_reducible assumption | with_reducible refine Below.drew ?_ | with_reducible refine Below.drewN ?_ _ | with_reducible refine Below.alloc1 ?_ _ | with_reducible refine Below.setCell1 ?_ (by first | omega | (simp; done) | (simp; omega)) _ | with_reducible refine Below.step ?_ (by with_reducible assumption)))
  have kS : Bk w1 w.heap.size 31 (bsC none 0 0 0 0) := by subst hV; (repeat (first | with_reducible exact Bk.new' _ _ _ _ (by simp; done) | with_reducible assumption | with_reducible refine Bk.alloc ?_ _ | with_reducible refine Bk.drew ?_ | with_reducible refine Bk.drewN ?_ _ | with_reducible refine Bk.step ?_ (by with_reducible assumption) | with_reducible refine Bk.far ?_ (by first | omega | (simp; done) | (simp; omega)) _))
  clear hV
  go_loopw [4, 5] (fun v i wr => ∃ (k : Nat) (x : Bs) (A W : Option Addr) (d cW : Nat), k ≤ ds.length ∧ i = .int .i64 k ∧ v = .slice W x.l.length cW ∧ Hid (Gd x ∧ 0 ≤ x.asked ∧ x.asked ≤ 64 * k) ∧ Bk wr w.heap.size 31 (bsC A x.l.length d x.asked x.saved) ∧ x.l.length ≤ d ∧ Rd wr wr.heap.size A (pbs x.l) ∧ Ap w.heap.size wr A W ∧ OwnW wr (w.heap.size + 1) 2 W x.l.length cW (pbs x.l) ∧ Below w.heap.size w wr) (fun _ i _ => ds.length - (intOf i).toNat)
  case atStart => exact ⟨0, ⟨[], 0, 0⟩, none, none, 0, 0, Nat.zero_le _, rfl, rfl, ⟨Gd.nil, by decide, by decide⟩, kS, Nat.le_refl _, Rd.nil, Ap.none _ _ _, OwnW.nil _ _ _, hb⟩
  case round =>
    clear kS hb
    obtain ⟨k, x, A, W, d, cW, hk, rfl, rfl, HG, kS, hd, rA, hA, oW, hb⟩ := hrel
    have lS := kS.lt
    have hm1 := hm.step hb
    by_cases hlt : k < ds.length
    case neg =>
      go_wp2_with fail
      refine (awake30 _ hm1).mono ?_; rintro e w3 ⟨rfl, hx⟩
      go_wp2_with fail
      go_ret
      exact ⟨rfl, hb.step hx⟩
    obtain ⟨ad, rfl, hadb, c0, c1, c2, c3⟩ := (hr.below hb).dd hlt
    have hbd := hB _ (List.getElem_mem hlt)
    generalize ds[k] = dd at *
    obtain ⟨da, db, dt, dg⟩ := dd
    obtain ⟨⟨ha0, ha1⟩, ⟨hb0, hb1⟩, hc0, hc1⟩ := hbd
    dsimp only at ha0 ha1 hb0 hb1 hc0 hc1 c0 c1 c2 c3
    obtain ⟨a, rfl⟩ : ∃ a : Nat, da = a := ⟨da.toNat, by omega⟩
    obtain ⟨b, rfl⟩ : ∃ b : Nat, db = b := ⟨db.toNat, by omega⟩
    obtain ⟨t, rfl⟩ : ∃ t : Nat, dt = t := ⟨dt.toNat, by omega⟩
    -- the deed's cells later on
    have hD2 : Hid (∀ W', Below w.heap.size w W' → W'.cell? { block := (ad.add (k * 4)).block, off := (ad.add (k * 4)).off + 2 } = some (.int .u8 (t : Int))) := fun W' h => (h.cell (by show (ad.add (k * 4)).block < _; rw [add_block]; exact hadb)).trans ((hb.cell (by show (ad.add (k * 4)).block < _; rw [add_block]; exact hadb)).symm.trans c2)
    have hD3 : Hid (∀ W', Below w.heap.size w W' → W'.cell? { block := (ad.add (k * 4)).block, off := (ad.add (k * 4)).off + 3 } = some (.bool dg)) := fun W' h => (h.cell (by show (ad.add (k * 4)).block < _; rw [add_block]; exact hadb)).trans ((hb.cell (by show (ad.add (k * 4)).block < _; rw [add_block]; exact hadb)).symm.trans c3)
    have cq0 : ∀ d os, (grow (redrawn wr d) os).cell? (ad.add (k * 4)) = some (.int .u8 (a : Int)) := fun d os => ((below_regrown wr d os).cell (by rw [add_block]; have := hb.size; omega)).trans c0
    have cq1 : ∀ d os, (grow (redrawn wr d) os).cell? { block := (ad.add (k * 4)).block, off := (ad.add (k * 4)).off + 1 } = some (.int .u8 (b : Int)) := fun d os => ((below_regrown wr d os).cell (by show (ad.add (k * 4)).block < _; rw [add_block]; have := hb.size; omega)).trans c1
    have hP := fun (W : World) => law_probe_any a b (by omega) (by omega) W
    have pF := prb_fine a b
    have pS := prb_sm a b
    generalize prb a b = p at *
    have HG2 := hide (HG.out.1.put pF pS)
    have hWy := hide (fun B hBB => bPut_wayB (x := x) (p := p) HG.out.1.1 pF B hBB)
    have hSm := HG.out.1.2
    have hl64 := HG.out.1.len
    have hask := HG.out.2
    clear HG pF
    obtain ⟨l, ak, sv⟩ := x
    dsimp only at kS hd rA oW hSm hl64 hask
    go_upto_region 8 with fail
    refine wp_region_mt 12 [(10, only (pbV p)), (11, NewBk wr.heap.size 60 (pbC ⟨⟨#[]⟩, ⟨#[]⟩⟩))] (by kernel_rfl) (by kernel_rfl) (by kernel_rfl) (by kernel_rfl) (sts_cons (sts_only _) (sts_cons (sts_newBk _ _ _) sts_nil)) (fun kq => ?_); (try dsimp only [List.append, List.take])
    (repeat (refine wpM_via (by kernel_rfl) ?_; go_big_quiet_step (fail); refine wpQuiet_nil ?_))
    (refine wpM_only _ (pbV p) (by kernel_rfl) (by kernel_rfl) rfl (later_some _) ?_ ?_; (focus (intro x hx hk; obtain ⟨px, rfl⟩ := hx; go_simp; (first | with_reducible refine mUpon_enter ?_ | with_reducible refine mUpon_value ?_); go_at_call 28; exact (hP _).mo)); intro K hK; go_big_quiet_op; refine hK _ ?_; clear hK K)
    (repeat (refine wpM_via (by kernel_rfl) ?_; go_big_quiet_step (fail); refine wpQuiet_nil ?_))
    (refine wpM_spec _ (NewBk wr.heap.size 60 (pbC ⟨⟨#[]⟩, ⟨#[]⟩⟩)) (by kernel_rfl) (by kernel_rfl) rfl (later_some _) ?_ ?_; (focus (intro x hx hk; obtain ⟨px, rfl⟩ := hx; go_simp; (first | with_reducible refine mUpon_enter ?_ | with_reducible refine mUpon_value ?_); exact newBk_new (by simp [Go.Sort.grow]) rfl (by simp [Go.Sort.grow, redrawn]))); intro v hv K hK; obtain ⟨g, rfl, hg⟩ := hv; go_big_quiet_op; refine hK _ ?_; clear hK K)
    refine wpM_nil ?_; intro wq hwq hfq; have hbq := below_of_class hwq; clear hwq kq; (try dsimp only [List.drop])
    have kg : Bk wq g 60 (pbC ⟨⟨#[]⟩, ⟨#[]⟩⟩) := newBk_of (base := wr.heap.size) hfq.1
    go_upto_region 9 with (first | (refine wpList_store_row rfl 60 _ _ rfl _ (pbC p).toArray rfl rfl _ _ kg (by kernel_rfl) (by kernel_rfl) (by kernel_rfl) ?_))
    generalize hV : World.setRow wq _ _ = w2
    have hx : Below wr.heap.size wr w2 := by subst hV; exact srow_below hbq hg _
    have kp : Bk w2 g 60 (pbC p) := by subst hV; exact kg.srow (pbC p)
    clear hV kg hfq hbq cq0 cq1 c0 c1 c2 c3 hP
    have hWg : ∀ aw, W = some aw → aw.block < g := fun aw e => Nat.lt_of_lt_of_le (oW.blk aw e).2 hg
    have hg0 : w.heap.size < g := Nat.lt_of_lt_of_le lS hg
    replace kS := kS.step hx
    replace rA := rA.step hx
    replace oW := oW.step hx
    replace hA := hA.grow hx.size
    replace hb := hb.step hx
    replace hm1 := hm1.step hx
    clear hx lS
    have rW := oW.rd
    -- who waits
    obtain ⟨wo, rfl⟩ : ∃ wo : World, wo = wr := ⟨_, rfl⟩
    go_wp2_with fail
    go_loopw [7, 8] (fun v i wr => ∃ (j : Nat), j ≤ l.length ∧ i = .int .i64 j ∧ v = .bool ((l.take j).any (fun q => decide (q = p))) ∧ ∃ n, w2.drewN n = wr) (fun _ i _ => l.length - (intOf i).toNat)
    case atStart => exact ⟨0, Nat.zero_le _, rfl, rfl, 0, rfl⟩
    case round =>
      obtain ⟨j, hj, rfl, rfl, n, rfl⟩ := hrel
      by_cases hjk : j < l.length
      · obtain ⟨aw, rfl, hawb, d1, d2⟩ := rW.pb hjk
        have hAS := hide (anyp_snoc l p j hjk)
        have hE := fun (q : Bool) (hq : q = decide (l[j] = p)) => (pb_eq l[j] p q hq).1
        generalize hB : (l.take j).any (fun q => decide (q = p)) = B at *
        replace hB := hide hB
        have kp_0 := kp.cell 0; have kp_f0 := kp.frozen 0; have kp_1 := kp.cell 1; have kp_f1 := kp.frozen 1; simp only [List.set_cons_zero, List.set_cons_succ, List.getElem?_cons_zero, List.getElem?_cons_succ] at kp_0 kp_1; have lt_kp := kp.lt
        clear kS rA oW hA hd
        cases B with
        | true =>
          clear hE
          go_wp2_with fail
          go_quiet (fail)
          go_wp2_with fail
          go_roundw
          case rel => exact ⟨j + 1, by omega, by go_num, by rw [hAS.out]; rfl, _, rfl⟩
          case measure => simp [intOf]; omega
        | false =>
          by_cases hzz : l[j] = p
          · have hE1 := hE true (by simp [hzz])
            have hS2 : Hid ((l.take (j + 1)).any (fun q => decide (q = p)) = true) := by unfold Hid; rw [hAS.out]; simp [hzz]
            replace hzz := hide hzz
            clear hE
            go_wp2_with fail
            go_quiet (fail)
            go_wp2_with fail
            go_roundw
            case rel => exact ⟨j + 1, by omega, by go_num, by rw [hS2.out], _, rfl⟩
            case measure => simp [intOf]; omega
          · have hE1 := hE false (by simp [hzz])
            have hS2 : Hid ((l.take (j + 1)).any (fun q => decide (q = p)) = false) := by unfold Hid; rw [hAS.out]; simp [hzz]
            replace hzz := hide hzz
            clear hE
            go_wp2_with fail
            go_quiet (fail)
            go_wp2_with fail
            go_roundw
            case rel => exact ⟨j + 1, by omega, by go_num, by rw [hS2.out], _, rfl⟩
            case measure => simp [intOf]; omega
      · obtain rfl : j = l.length := by omega
        rw [List.take_length, any_mem]
        generalize hBm : decide (p ∈ l) = Bm
        replace hWy := hide (hWy.out Bm hBm)
        clear rW hBm
        replace kS := kS.drewN n
        replace kp := kp.drewN n
        replace rA : Rd (w2.drewN n) (w2.drewN n).heap.size A (pbs l) := rA
        replace oW := oW.drewN n
        replace hA : Ap w.heap.size (w2.drewN n) A W := hA
        replace hb := hb.drewN n
        replace hm1 : MW (w2.drewN n) := hm1
        generalize w2.drewN n = w3 at *
        have lS : w.heap.size < w3.heap.size := kS.lt
        have hWs : ∀ aw, W = some aw → aw.block < w3.heap.size := fun aw e => (oW.blk aw e).2
        have kS_0 := kS.cell 0; have kS_f0 := kS.frozen 0; have kS_1 := kS.cell 1; have kS_f1 := kS.frozen 1; have kS_2 := kS.cell 2; have kS_f2 := kS.frozen 2; simp only [List.set_cons_zero, List.set_cons_succ, List.getElem?_cons_zero, List.getElem?_cons_succ] at kS_0 kS_1 kS_2; have lt_kS := kS.lt; have kp_0 := kp.cell 0; have kp_f0 := kp.frozen 0; have kp_1 := kp.cell 1; have kp_f1 := kp.frozen 1; simp only [List.set_cons_zero, List.set_cons_succ, List.getElem?_cons_zero, List.getElem?_cons_succ] at kp_0 kp_1; have lt_kp := kp.lt
        have hQ := batch_Put_fr A d l ak sv p.who p.user w3 (by omega) hd hSm pS hm1 rA
        obtain ⟨y, z⟩ := p
        dsimp only at hQ
        go_wp2_with fail
        refine hQ.mono ?_; rintro e w4 ⟨V, rfl, ⟨A1, d1, rfl, hd1, r1, hF⟩, hx⟩
        replace hA := hA.fr hF lS hWs hx.size
        replace hb := hb.step hx
        replace hm1 := hm1.step hx
        replace oW := oW.step hx
        replace kS := kS.step hx; (try clear kS_0 kS_f0 kS_1 kS_f1 kS_2 kS_f2); have kS_0 := kS.cell 0; have kS_f0 := kS.frozen 0; have kS_1 := kS.cell 1; have kS_f1 := kS.frozen 1; have kS_2 := kS.cell 2; have kS_f2 := kS.frozen 2; simp only [List.set_cons_zero, List.set_cons_succ, List.getElem?_cons_zero, List.getElem?_cons_succ] at kS_0 kS_1 kS_2; (try clear lt_kS); have lt_kS := kS.lt; replace kp := kp.step hx; (try clear kp_0 kp_f0 kp_1 kp_f1); have kp_0 := kp.cell 0; have kp_f0 := kp.frozen 0; have kp_1 := kp.cell 1; have kp_f1 := kp.frozen 1; simp only [List.set_cons_zero, List.set_cons_succ, List.getElem?_cons_zero, List.getElem?_cons_succ] at kp_0 kp_1; (try clear lt_kp); have lt_kp := kp.lt
        clear hx hQ hF rA hSm pS hd hWs
        generalize bPut ⟨l, ak, sv⟩ ⟨y, z⟩ = R at *
        obtain ⟨⟨l1, a1, s1⟩, e1⟩ := R
        dsimp only at hd1 r1 hWy
        go_upto_region 15 with fail
        generalize hV : World.alloc w4 _ = w5
        have hx : Below w4.heap.size w4 w5 := by subst hV; (repeat (first | with_reducible exact Below.refl _ _ | with_reducible assumption | with_reducible refine Below.drew ?_ | with_reducible refine Below.drewN ?_ _ | with_reducible refine Below.alloc1 ?_ _ | with_reducible refine Below.setCell1 ?_ (by first | omega | (simp; done) | (simp; omega)) _ | with_reducible refine Below.step ?_ (by with_reducible assumption)))
        have kX : Bk w5 w4.heap.size 31 (bsC A1 l1.length d1 a1 s1) := by subst hV; exact Bk.new w4 _ _
        clear hV
        have hWX : ∀ aw, W = some aw → aw.block < w4.heap.size := fun aw e => (oW.blk aw e).2
        have hgX : g < w4.heap.size := lt_kp
        have hSX : w.heap.size < w4.heap.size := lt_kS
        replace hA := hA.grow hx.size
        replace hb := hb.step hx
        replace hm1 := hm1.step hx
        replace oW := oW.step hx
        replace r1 := r1.step hx
        replace kS := kS.step hx; (try clear kS_0 kS_f0 kS_1 kS_f1 kS_2 kS_f2); have kS_0 := kS.cell 0; have kS_f0 := kS.frozen 0; have kS_1 := kS.cell 1; have kS_f1 := kS.frozen 1; have kS_2 := kS.cell 2; have kS_f2 := kS.frozen 2; simp only [List.set_cons_zero, List.set_cons_succ, List.getElem?_cons_zero, List.getElem?_cons_succ] at kS_0 kS_1 kS_2; (try clear lt_kS); have lt_kS := kS.lt; replace kp := kp.step hx; (try clear kp_0 kp_f0 kp_1 kp_f1); have kp_0 := kp.cell 0; have kp_f0 := kp.frozen 0; have kp_1 := kp.cell 1; have kp_f1 := kp.frozen 1; simp only [List.set_cons_zero, List.set_cons_succ, List.getElem?_cons_zero, List.getElem?_cons_succ] at kp_0 kp_1; (try clear lt_kp); have lt_kp := kp.lt
        clear hx
        generalize hgXe : w4.heap.size = gX at *
        have lX : gX < w5.heap.size := kX.lt
        clear hgXe
        go_cut [69] from 61 to 68 (fun v wx => v = .bool false ∧ wx = w5)
        case first =>
          clear kS kp kX r1 oW hA HG2 hm1
          have hW := hWy.out
          clear hWy
          rcases hW with ⟨rfl, rfl, w3', w4'⟩ | ⟨rfl, w2', rfl, w3', w4'⟩ | ⟨rfl, w2', rfl, w3', w4'⟩
          · clear w3' w4'
            go_wp2_with fail
            go_meet
            exact ⟨rfl, rfl⟩
          · have g2 : decide ((l.length : Int) < 64) = false := by rw [decide_eq_false_iff_not]; omega
            clear w2' w3' w4'
            go_wp2_with fail
            go_meet
            exact ⟨rfl, rfl⟩
          · have g2 : decide ((l.length : Int) < 64) = true := by rw [decide_eq_true_eq]; omega
            clear w2' w3' w4'
            go_wp2_with fail
            go_meet
            exact ⟨rfl, rfl⟩
        case rest =>
          obtain ⟨rfl, rfl⟩ := hcut
          go_upto_region 17 with fail
          go_cut [75] from 70 to 74 (fun v wx => ∃ q : Bool, v = .bool q ∧ Hid (q = (decide (e1 = 0) && !Bm)) ∧ wx = wc)
          case first =>
            clear kS kp kX r1 oW hA HG2 hm1
            have hW := hWy.out
            clear hWy
            rcases hW with ⟨rfl, rfl, w3', w4'⟩ | ⟨rfl, w2', rfl, w3', w4'⟩ | ⟨rfl, w2', rfl, w3', w4'⟩
            · clear w3' w4'
              go_wp2_with fail
              go_meet
              exact ⟨_, rfl, by unfold Hid; rfl, rfl⟩
            · clear w2' w3' w4'
              go_wp2_with fail
              go_meet
              exact ⟨_, rfl, by unfold Hid; rfl, rfl⟩
            · clear w2' w3' w4'
              go_wp2_with fail
              go_meet
              exact ⟨_, rfl, by unfold Hid; rfl, rfl⟩
          case rest =>
          obtain ⟨q, rfl, HQ, rfl⟩ := hcut
          go_upto_if 75 with (fail)
          go_cut [4] from 76 to 79 (fun v wx => ∃ W1 c1, v = .slice W1 l1.length c1 ∧ OwnW wx (w.heap.size + 1) 2 W1 l1.length c1 (pbs l1) ∧ Bk wx w.heap.size 31 (bsC A l.length d ak sv) ∧ Bk wx g 60 (pbC ⟨y, z⟩) ∧ Bk wx gX 31 (bsC A1 l1.length d1 a1 s1) ∧ Rd wx wx.heap.size A1 (pbs l1) ∧ Ap w.heap.size wx A1 W1 ∧ Below w.heap.size w wx ∧ wc.heap.size ≤ wx.heap.size)
          case first =>
            obtain ⟨wd, rfl⟩ : ∃ wd : World, wd = wc := ⟨_, rfl⟩
            clear HG2 hm1
            have hW := hWy.out
            clear hWy
            rcases hW with ⟨rfl, rfl, rfl, w4'⟩ | ⟨rfl, w2', rfl, rfl, w4'⟩ | ⟨rfl, w2', rfl, w5', w4'⟩
            · obtain rfl : q = false := HQ.out
              clear w4'
              go_wp2_with fail
              go_meet
              exact ⟨W, cW, rfl, oW, kS, kp, kX, r1, hA, hb, Nat.le_refl _⟩
            · obtain rfl : q = false := HQ.out
              clear w2' w4'
              go_wp2_with fail
              go_meet
              exact ⟨W, cW, rfl, oW, kS, kp, kX, r1, hA, hb, Nat.le_refl _⟩
            · obtain rfl : q = true := HQ.out
              have hl1 : l.length < 64 := w2'
              replace w5' := hide w5'
              clear w2' w4'
              have hblkW := oW.blk
              go_wp2_with (at_builtin; refine wpList_appW rfl (.tmp 76) (.tmp 78) 29 rfl (w.heap.size + 1) 60 iT _ 2 32 Try.underlying29 hi hz0 hz1 hz2 rfl (by omega) W l.length cW (pbs l) rfl (oW.step (Below.alloc1 (Below.refl _ _) _)) ⟨wd.heap.size, 0, none⟩ 1 (pbC ⟨y, z⟩) rfl rfl (news_at (cs := [_, _])) (by simp [Value.oneCell']) (by unfold maxLen; omega) (by omega) (by simp; omega) ?_; intro W1 c1 w7 o7 hb7 hg7 hf7)
              have hs7 := hb7.size
              simp at hs7
              have kS7 := (kS.alloc _).below hb7 (by omega)
              have kp7 := (kp.alloc _).gr1 hg7 (fun j e => by obtain ⟨aw, e1, rfl⟩ := ownB e; have := hWg aw e1; omega)
              have kX7 := (kX.alloc _).gr1 hg7 (fun j e => by obtain ⟨aw, e1, rfl⟩ := ownB e; have := hWX aw e1; omega)
              have r17 := (r1.alloc1 _).kept hg7 (fun ad e h => by obtain ⟨aw, e1, e2⟩ := ownB h; exact hA.2 ad aw e e1 e2.symm)
              have hA7 := (hA.grow (Below.alloc1 (Below.refl wd.heap.size wd) (.cells #[.string y, .string z] 60)).size).win hf7 hb7.size
              have hb8 : Below w.heap.size w w7 := (hb.alloc1 _).trans (hb7.mono (by omega))
              have e7 : Hid (l.length + 1 = l1.length) := by unfold Hid; rw [w5'.out]; simp
              have o8 : OwnW w7 (w.heap.size + 1) 2 W1 l1.length c1 (pbs l1) := by
                rw [← e7.out, w5'.out, pbs_append, show pbs [(⟨y, z⟩ : Pb)] = pbC ⟨y, z⟩ by simp [pbs]]; exact o7
              (try clear kS_0 kS_f0 kS_1 kS_f1 kS_2 kS_f2 lt_kS) ; (try clear kp_0 kp_f0 kp_1 kp_f1 lt_kp)
              clear kS kp kX r1 hA oW o7
              go_wp2_with fail
              go_meet
              exact ⟨W1, c1, by rw [← e7.out], o8, kS7, kp7, kX7, r17, hA7, hb8, by omega⟩
          case rest =>
            obtain ⟨W1, c1, rfl, oW, kS, kp, kX, r1, hA, hb, hsx⟩ := hcut
            obtain rfl : a1 = ak := by rcases hWy.out with ⟨_, _, _, h⟩ | ⟨_, _, _, _, h⟩ | ⟨_, _, _, _, h⟩ <;> exact h
            clear hWy hWg hWX hsx hl64 hm1
            have hm1 := hm.step hb
            obtain ⟨hg0', hlX, hlg, hlS⟩ : w.heap.size < g ∧ gX < wc.heap.size ∧ g < wc.heap.size ∧ w.heap.size < wc.heap.size := ⟨hg0, kX.lt, kp.lt, kS.lt⟩
            have hl64 := HG2.out.len
            have hSm := HG2.out.2
            dsimp only at hl64 hSm
            have hT := hide (take_once (t := t) HG2.out hask.1 (by dsimp only; omega))
            have HG3 := hide (HG2.out.take (t : Int))
            have fT := fun (W : World) (hW : MW W) (hR : Rd W W.heap.size A1 (pbs l1)) => batch_Take_fs A1 d1 l1 a1 s1 (t : Int) W (by omega) hd1 hSm hW hR
            generalize bTake ⟨l1, a1, s1⟩ (t : Int) = T at *
            have cq2 : ∀ d os, (grow (redrawn wc d) os).cell? { block := (ad.add (k * 4)).block, off := (ad.add (k * 4)).off + 2 } = some (.int .u8 (t : Int)) := fun d os => ((below_regrown wc d os).cell (by show (ad.add (k * 4)).block < _; rw [add_block]; have := hb.size; omega)).trans (hD2.out wc hb)
            have hwt : IntKind.i64.wrap (t : Int) = (t : Int) := IntWalk.i64_in _ (by omega)
            have kX_0 := kX.cell 0; have kX_f0 := kX.frozen 0; have kX_1 := kX.cell 1; have kX_f1 := kX.frozen 1; have kX_2 := kX.cell 2; have kX_f2 := kX.frozen 2; simp only [List.set_cons_zero, List.set_cons_succ, List.getElem?_cons_zero, List.getElem?_cons_succ] at kX_0 kX_1 kX_2; have lt_kX := kX.lt
            have hkI : (k : Int) < (ds.length : Int) := by omega
            go_upto_region 19 with fail
            refine wp_region_ml 12 10 [(7, TkF A1 T), (11, NewBk wc.heap.size 31 (bsC none 0 0 0 0))] (by kernel_rfl) (by kernel_rfl) (by kernel_rfl) (by kernel_rfl) (by kernel_rfl) (sts_cons (sts_tkF _ _) (sts_cons (sts_newBk _ _ _) sts_nil)) (fun _ d _ _ _ h => by cases d <;> exact h) (fun kq => ?_); (try dsimp only [List.append, lateL, lateOp, List.getElem?_cons_succ, List.getElem?_cons_zero, List.set_cons_succ, List.set_cons_zero, List.take])
            (repeat (refine wpM_via (by kernel_rfl) ?_; go_big_quiet_step (fail); refine wpQuiet_nil ?_))
            (refine wpM_spec _ (TkF A1 T) (by kernel_rfl) (by kernel_rfl) rfl (later_some _) ?_ ?_; (focus (intro x hx hk; obtain ⟨px, rfl⟩ := hx; go_simp; (first | with_reducible refine mUpon_enter ?_ | with_reducible refine mUpon_value ?_); go_at_call 12; exact tkF_m (fT _ (hm1.step (below_regrown wc _ _)) (r1.step (below_regrown wc _ _))))); intro v hv K hK; obtain ⟨A2, d2, E, f, rfl⟩ := hv; go_big_quiet_op; refine hK _ ?_; clear hK K)
            (repeat (refine wpM_via (by kernel_rfl) ?_; go_big_quiet_step (fail); refine wpQuiet_nil ?_))
            (refine wpM_spec _ (NewBk wc.heap.size 31 (bsC none 0 0 0 0)) (by kernel_rfl) (by kernel_rfl) rfl (later_some _) ?_ ?_; (focus (intro x hx hk; obtain ⟨px, rfl⟩ := hx; go_simp; (first | with_reducible refine mUpon_enter ?_ | with_reducible refine mUpon_value ?_); exact newBk_new (by simp [Go.Sort.grow]) rfl (by simp [Go.Sort.grow, redrawn]))); intro v hv K hK; obtain ⟨gY, rfl, hgY⟩ := hv; go_big_quiet_op; refine hK _ ?_; clear hK K)
            refine wpM_nil ?_; intro wq hwq hfq; have hbq := below_of_class hwq; clear hwq kq; (try dsimp only [List.drop])
            have kY0 : Bk wq gY 31 (bsC none 0 0 0 0) := newBk_of (base := wc.heap.size) hfq.1
            obtain ⟨hd2, r2, rE, hF2, hFE⟩ := tkF_of (T := T) hfq.2.1
            obtain ⟨⟨l2, a2, s2⟩, m2⟩ := T
            dsimp only at hd2 r2 rE hT
            (refine wpList_store_row rfl 31 _ _ rfl _ (bsC A2 l2.length d2 a2 s2).toArray rfl rfl _ _ kY0 (by kernel_rfl) (by kernel_rfl) (by kernel_rfl) ?_)
            dsimp only [Act.put]
            have hA1Y : ∀ ad0, A1 = some ad0 → ad0.block < gY := fun ad0 e => by have := (hA.1 ad0 e).2; omega
            have hW1Y : ∀ aw, W1 = some aw → aw.block < gY := fun aw e => by have := (oW.blk aw e).2; omega
            have r2' := r2.rowFar (g := gY) (fun ad0 e => by obtain ⟨ad1, e1, h1⟩ := hF2 ad0 e; have := (hA.1 ad1 e1).2; omega) (bsC A2 l2.length d2 a2 s2).toArray
            have rE' := rE.rowFar (g := gY) (fun ad0 e => by obtain ⟨ad1, e1, h1⟩ := hFE ad0 e; have := (hA.1 ad1 e1).2; omega) (bsC A2 l2.length d2 a2 s2).toArray
            have kYn := kY0.srow (bsC A2 l2.length d2 a2 s2)
            have hx := srow_below hbq hgY (bsC A2 l2.length d2 a2 s2).toArray
            generalize World.setRow wq gY (bsC A2 l2.length d2 a2 s2).toArray = w6 at *
            clear kY0 r2 rE hfq hbq cq2 fT hSm
            replace hA := hA.frS hF2 hx.size
            replace hb := hb.step hx
            replace oW := oW.step hx
            replace kX := kX.step hx; (try clear kX_0 kX_f0 kX_1 kX_f1 kX_2 kX_f2); have kX_0 := kX.cell 0; have kX_f0 := kX.frozen 0; have kX_1 := kX.cell 1; have kX_f1 := kX.frozen 1; have kX_2 := kX.cell 2; have kX_f2 := kX.frozen 2; simp only [List.set_cons_zero, List.set_cons_succ, List.getElem?_cons_zero, List.getElem?_cons_succ] at kX_0 kX_1 kX_2; (try clear lt_kX); have lt_kX := kX.lt
            have kSn := kS.step hx
            have kpn := kp.step hx
            have hm6 := hm.step hb
            clear hx kS kp r1 hm1 hFE
            have hA2Y : ∀ ad0, A2 = some ad0 → ad0.block < gY := fun ad0 e => by obtain ⟨ad1, e1, h1⟩ := hF2 ad0 e; have := hA1Y ad1 e1; omega
            clear hF2 hA1Y
            obtain ⟨hT1, hT2, hT3, hT4, hT5⟩ := hT.out
            have eA : ((m2.length : Int) != min (t : Int) (l1.length : Int)) = false := by rw [bne_eq_false_iff_eq]; exact hT4
            have eB : (a2 != a1 + (m2.length : Int)) = false := by rw [bne_eq_false_iff_eq]; exact hT5
            have c2' := hD2.out w6 hb
            have hm64 : m2.length ≤ 64 := by omega
            obtain ⟨ha0', ha64⟩ := hask
            have ha65 : a1 ≤ 6400 := by omega
            have hz : Hid (0 ≤ a2 ∧ a2 ≤ 64 * ((k + 1 : Nat) : Int)) := ⟨by omega, by push_cast; omega⟩
            have hlm : m2.length ≤ l1.length := hT3
            clear hT4 hT5
            replace hT1 := hide hT1
            replace hT2 := hide hT2
            have kYn_0 := kYn.cell 0; have kYn_f0 := kYn.frozen 0; have kYn_1 := kYn.cell 1; have kYn_f1 := kYn.frozen 1; have kYn_2 := kYn.cell 2; have kYn_f2 := kYn.frozen 2; simp only [List.set_cons_zero, List.set_cons_succ, List.getElem?_cons_zero, List.getElem?_cons_succ] at kYn_0 kYn_1 kYn_2; have lt_kYn := kYn.lt
            go_wp2_with fail
            clear eA eB c2' ha65
            (try clear kX_0 kX_f0 kX_1 kX_f1 kX_2 kX_f2 lt_kX) ; (try clear kYn_0 kYn_f0 kYn_1 kYn_f1 kYn_2 kYn_f2 lt_kYn)
            go_loopw [13] (fun v wr => ∃ (j : Nat), j ≤ m2.length ∧ v = .int .i64 j ∧ ∃ n, w6.drewN n = wr) (fun v _ => m2.length - (intOf v).toNat)
            case atStart => exact ⟨0, Nat.zero_le _, rfl, 0, rfl⟩
            case round =>
              obtain ⟨j, hj, rfl, n, rfl⟩ := hrel
              by_cases hjk : j < m2.length
              · obtain ⟨ae, rfl, haeb, e0, e1⟩ := rE'.pb hjk
                obtain ⟨aw, rfl, hawb, f0, f1⟩ := oW.rd.pb (k := j) (by omega)
                have hjl : j < l1.length := by omega
                rw [← hT2.out j hjk hjl] at f0 f1
                have hE := (pb_eq m2[j] m2[j] true (by simp)).2
                generalize m2[j] = u at *
                clear kX kSn kpn kYn r2' hA hA2Y
                go_wp2_with fail
                go_quiet (fail)
                go_wp2_with fail
                go_roundw
                case rel => exact ⟨j + 1, by omega, by go_num, _, rfl⟩
                case measure => simp [intOf]; omega
              · obtain rfl : j = m2.length := by omega
                have kS := kSn.drewN n
                have kp := kpn.drewN n
                have kY := kYn.drewN n
                have r2 : Rd (w6.drewN n) (w6.drewN n).heap.size A2 (pbs l2) := r2'
                replace oW := oW.drewN n
                replace hA : Ap w.heap.size (w6.drewN n) A2 W1 := hA
                replace hb := hb.drewN n
                have hm1 : MW (w6.drewN n) := hm6
                clear kX kSn kpn kYn r2' rE' hm6
                generalize w6.drewN n = w7 at *
                obtain ⟨W2, hOW, hW2, sf1, sf2⟩ := from_runW Try.underlying29 hel.out hsz.out m2.length hT3 oW
                replace oW := hOW _ oW
                have hl2 : l1.length - m2.length = l2.length := by rw [hT1.out, List.length_drop]
                rw [pbs_drop, ← hT1.out, hl2] at oW
                replace hA : Ap w.heap.size w7 A2 W2 := hA.win (fun aw e => .inr (hW2 aw e)) (Nat.le_refl _)
                have hW2Y : ∀ aw, W2 = some aw → aw.block < gY := fun aw e => by obtain ⟨aw1, e1, h1⟩ := hW2 aw e; have := hW1Y aw1 e1; omega
                clear hOW hT1 hT2 hT3 hW2 hjk hj hW1Y
                replace hl2 := hide hl2
                have c3' := hD3.out w7 hb
                go_upto_region 28 with fail
                rw [hl2.out]
                clear sf1 sf2 hl2
                have HGz := HG3
                cases dg with
                | false =>
                  clear HG3 HG2 hA2Y hW2Y hlX hlg hlS hgX hg0 hg0'
                  go_upto_region 37 with fail
                  clear c3'
                  have hdz := hd2
                  have lS := kS.lt
                  have hCk := batch_Check_any A2 d2 l2 a2 s2 w7 (by have := HGz.out.len; dsimp only at this; omega) hdz HGz.out.2 hm1 r2
                  rw [show bCheck ⟨l2, a2, s2⟩ = 0 from HGz.out.1] at hCk
                  have hl64 := HGz.out.len
                  dsimp only at hl64
                  have kS_0 := kS.cell 0; have kS_f0 := kS.frozen 0; have kS_1 := kS.cell 1; have kS_f1 := kS.frozen 1; have kS_2 := kS.cell 2; have kS_f2 := kS.frozen 2; simp only [List.set_cons_zero, List.set_cons_succ, List.getElem?_cons_zero, List.getElem?_cons_succ] at kS_0 kS_1 kS_2; have lt_kS := kS.lt; have kY_0 := kY.cell 0; have kY_f0 := kY.frozen 0; have kY_1 := kY.cell 1; have kY_f1 := kY.frozen 1; have kY_2 := kY.cell 2; have kY_f2 := kY.frozen 2; simp only [List.set_cons_zero, List.set_cons_succ, List.getElem?_cons_zero, List.getElem?_cons_succ] at kY_0 kY_1 kY_2; have lt_kY := kY.lt
                  go_wp2_with fail
                  refine hCk.mono ?_; rintro e y1 ⟨rfl, hx⟩
                  replace hb := hb.step hx
                  replace hm1 := hm1.step hx
                  replace r2 := r2.step hx
                  replace oW := oW.step hx
                  replace hA := hA.grow hx.size
                  replace kS := kS.step hx; (try clear kS_0 kS_f0 kS_1 kS_f1 kS_2 kS_f2); have kS_0 := kS.cell 0; have kS_f0 := kS.frozen 0; have kS_1 := kS.cell 1; have kS_f1 := kS.frozen 1; have kS_2 := kS.cell 2; have kS_f2 := kS.frozen 2; simp only [List.set_cons_zero, List.set_cons_succ, List.getElem?_cons_zero, List.getElem?_cons_succ] at kS_0 kS_1 kS_2; (try clear lt_kS); have lt_kS := kS.lt; replace kY := kY.step hx; (try clear kY_0 kY_f0 kY_1 kY_f1 kY_2 kY_f2); have kY_0 := kY.cell 0; have kY_f0 := kY.frozen 0; have kY_1 := kY.cell 1; have kY_f1 := kY.frozen 1; have kY_2 := kY.cell 2; have kY_f2 := kY.frozen 2; simp only [List.set_cons_zero, List.set_cons_succ, List.getElem?_cons_zero, List.getElem?_cons_succ] at kY_0 kY_1 kY_2; (try clear lt_kY); have lt_kY := kY.lt
                  clear hx hCk
                  go_wp2_with fail
                  refine (law_probes_any A2 d2 l2 y1 (by omega) r2).mono ?_; rintro e y2 ⟨E1, f1, rfl, o1, hx⟩
                  replace hb := hb.step hx
                  replace r2 := r2.step hx
                  replace oW := oW.step hx
                  replace hA := hA.grow hx.size
                  have q1 := own_rd o1
                  replace kS := kS.step hx; (try clear kS_0 kS_f0 kS_1 kS_f1 kS_2 kS_f2); have kS_0 := kS.cell 0; have kS_f0 := kS.frozen 0; have kS_1 := kS.cell 1; have kS_f1 := kS.frozen 1; have kS_2 := kS.cell 2; have kS_f2 := kS.frozen 2; simp only [List.set_cons_zero, List.set_cons_succ, List.getElem?_cons_zero, List.getElem?_cons_succ] at kS_0 kS_1 kS_2; (try clear lt_kS); have lt_kS := kS.lt; replace kY := kY.step hx; (try clear kY_0 kY_f0 kY_1 kY_f1 kY_2 kY_f2); have kY_0 := kY.cell 0; have kY_f0 := kY.frozen 0; have kY_1 := kY.cell 1; have kY_f1 := kY.frozen 1; have kY_2 := kY.cell 2; have kY_f2 := kY.frozen 2; simp only [List.set_cons_zero, List.set_cons_succ, List.getElem?_cons_zero, List.getElem?_cons_succ] at kY_0 kY_1 kY_2; (try clear lt_kY); have lt_kY := kY.lt
                  clear hx o1
                  go_wp2_with fail
                  refine (law_probes_any W2 (c1 - m2.length) l2 y2 (by omega) oW.rd).mono ?_; rintro e y3 ⟨E2, f2, rfl, o2, hx⟩
                  replace hb := hb.step hx
                  replace r2 := r2.step hx
                  replace oW := oW.step hx
                  replace q1 := q1.step hx
                  replace hA := hA.grow hx.size
                  have q2 := own_rd o2
                  replace kS := kS.step hx; (try clear kS_0 kS_f0 kS_1 kS_f1 kS_2 kS_f2); have kS_0 := kS.cell 0; have kS_f0 := kS.frozen 0; have kS_1 := kS.cell 1; have kS_f1 := kS.frozen 1; have kS_2 := kS.cell 2; have kS_f2 := kS.frozen 2; simp only [List.set_cons_zero, List.set_cons_succ, List.getElem?_cons_zero, List.getElem?_cons_succ] at kS_0 kS_1 kS_2; (try clear lt_kS); have lt_kS := kS.lt; replace kY := kY.step hx; (try clear kY_0 kY_f0 kY_1 kY_f1 kY_2 kY_f2); have kY_0 := kY.cell 0; have kY_f0 := kY.frozen 0; have kY_1 := kY.cell 1; have kY_f1 := kY.frozen 1; have kY_2 := kY.cell 2; have kY_f2 := kY.frozen 2; simp only [List.set_cons_zero, List.set_cons_succ, List.getElem?_cons_zero, List.getElem?_cons_succ] at kY_0 kY_1 kY_2; (try clear lt_kY); have lt_kY := kY.lt
                  clear hx o2
                  have hSP := ref30_SameProbes_any E1 E2 f1 f2 l2 l2 y3 (by unfold maxLen; omega) q1 q2
                  rw [decide_eq_true rfl] at hSP
                  go_wp2_with fail
                  refine hSP.mono ?_; rintro e y4 ⟨rfl, n4, rfl⟩
                  clear hSP q1 q2
                  replace hb := hb.drewN n4
                  replace r2 : Rd (y3.drewN n4) (y3.drewN n4).heap.size A2 (pbs l2) := r2
                  replace oW := oW.drewN n4
                  replace hA : Ap w.heap.size (y3.drewN n4) A2 W2 := hA
                  have kS4 := kS.drewN n4
                  have kY4 := kY.drewN n4
                  (try clear kS_0 kS_f0 kS_1 kS_f1 kS_2 kS_f2 lt_kS) ; (try clear kY_0 kY_f0 kY_1 kY_f1 kY_2 kY_f2 lt_kY)
                  clear kS kY
                  generalize y3.drewN n4 = y5 at *
                  have kS4_0 := kS4.cell 0; have kS4_f0 := kS4.frozen 0; have kS4_1 := kS4.cell 1; have kS4_f1 := kS4.frozen 1; have kS4_2 := kS4.cell 2; have kS4_f2 := kS4.frozen 2; simp only [List.set_cons_zero, List.set_cons_succ, List.getElem?_cons_zero, List.getElem?_cons_succ] at kS4_0 kS4_1 kS4_2; have lt_kS4 := kS4.lt; have kY4_0 := kY4.cell 0; have kY4_f0 := kY4.frozen 0; have kY4_1 := kY4.cell 1; have kY4_f1 := kY4.frozen 1; have kY4_2 := kY4.cell 2; have kY4_f2 := kY4.frozen 2; simp only [List.set_cons_zero, List.set_cons_succ, List.getElem?_cons_zero, List.getElem?_cons_succ] at kY4_0 kY4_1 kY4_2; have lt_kY4 := kY4.lt
                  go_wp2_with (first | (refine wpList_store_row rfl 31 _ _ rfl _ (bsC A2 l2.length d2 a2 s2).toArray rfl rfl _ _ kS4 (by kernel_rfl) (by kernel_rfl) (by kernel_rfl) ?_))
                  have kS6 := kS4.srow (bsC A2 l2.length d2 a2 s2)
                  have r6 := r2.rowFar (fun ad e => (hA.1 ad e).1) (bsC A2 l2.length d2 a2 s2).toArray
                  have o6 := oW.rowFar (g := w.heap.size) (fun ad e => by have := (oW.blk ad e).1; omega) (bsC A2 l2.length d2 a2 s2).toArray
                  have h6 := hA.grow (w' := y5.setRow w.heap.size (bsC A2 l2.length d2 a2 s2).toArray) (by rw [setRow_size]; exact Nat.le_refl _)
                  have b6 := srow_below hb (Nat.le_refl _) (bsC A2 l2.length d2 a2 s2).toArray
                  have HF : Hid (Gd ⟨l2, a2, s2⟩ ∧ 0 ≤ a2 ∧ a2 ≤ 64 * ((k + 1 : Nat) : Int)) := ⟨HGz.out, hz.out⟩
                  go_roundw
                  case rel => exact ⟨k + 1, ⟨l2, a2, s2⟩, A2, W2, d2, (c1 - m2.length), by omega, by go_num, rfl, HF, kS6, hdz, r6, h6, o6, b6⟩
                  case measure => simp [intOf]; omega

                | true =>
                  have hSm2 := HG3.out.2
                  have hl64' := HG3.out.len
                  dsimp only at hSm2 hl64'
                  have hQ := batch_Forget_fr A2 d2 l2 a2 s2 y w7 (by omega) hd2 hSm2 hm1 r2
                  have hGl := hide (forget_l (u := y) HG3.out)
                  have HG4 := hide (HG3.out.forget y)
                  have lY := kY.lt
                  have lS := kS.lt
                  have hWs : ∀ aw, W2 = some aw → aw.block < w7.heap.size := fun aw e => (oW.blk aw e).2
                  have kY_0 := kY.cell 0; have kY_f0 := kY.frozen 0; have kY_1 := kY.cell 1; have kY_f1 := kY.frozen 1; have kY_2 := kY.cell 2; have kY_f2 := kY.frozen 2; simp only [List.set_cons_zero, List.set_cons_succ, List.getElem?_cons_zero, List.getElem?_cons_succ] at kY_0 kY_1 kY_2; have lt_kY := kY.lt; have kp_0 := kp.cell 0; have kp_f0 := kp.frozen 0; have kp_1 := kp.cell 1; have kp_f1 := kp.frozen 1; simp only [List.set_cons_zero, List.set_cons_succ, List.getElem?_cons_zero, List.getElem?_cons_succ] at kp_0 kp_1; have lt_kp := kp.lt
                  clear HGz
                  go_wp2_with fail
                  refine hQ.mono ?_; rintro e w8 ⟨V0, rfl, ⟨A3, d3, rfl, hd3, r3, hF3⟩, hx⟩
                  have hA3Y := hF3.ne lY (fun ad0 e => by have := hA2Y ad0 e; omega)
                  replace hA := hA.fr hF3 lS hWs hx.size
                  replace hb := hb.step hx
                  replace oW := oW.step hx
                  replace kS := kS.step hx
                  replace kY := kY.step hx; (try clear kY_0 kY_f0 kY_1 kY_f1 kY_2 kY_f2); have kY_0 := kY.cell 0; have kY_f0 := kY.frozen 0; have kY_1 := kY.cell 1; have kY_f1 := kY.frozen 1; have kY_2 := kY.cell 2; have kY_f2 := kY.frozen 2; simp only [List.set_cons_zero, List.set_cons_succ, List.getElem?_cons_zero, List.getElem?_cons_succ] at kY_0 kY_1 kY_2; (try clear lt_kY); have lt_kY := kY.lt; replace kp := kp.step hx; (try clear kp_0 kp_f0 kp_1 kp_f1); have kp_0 := kp.cell 0; have kp_f0 := kp.frozen 0; have kp_1 := kp.cell 1; have kp_f1 := kp.frozen 1; simp only [List.set_cons_zero, List.set_cons_succ, List.getElem?_cons_zero, List.getElem?_cons_succ] at kp_0 kp_1; (try clear lt_kp); have lt_kp := kp.lt
                  clear hx hQ hF3 r2 hm1 hSm2 hd2 hWs c3'
                  generalize bForget ⟨l2, a2, s2⟩ y = G at *
                  obtain ⟨l3, a3, s3⟩ := G
                  dsimp only at hd3 r3 hGl
                  go_upto_region 30 with (first | (refine wpList_store_row rfl 31 _ _ rfl _ (bsC A3 l3.length d3 a3 s3).toArray rfl rfl _ _ kY (by kernel_rfl) (by kernel_rfl) (by kernel_rfl) ?_))
                  have kY9 := kY.srow (bsC A3 l3.length d3 a3 s3)
                  have r9 := r3.rowFar hA3Y (bsC A3 l3.length d3 a3 s3).toArray
                  have oW9 := oW.rowFar (g := gY) (fun aw e => by have := hW2Y aw e; omega) (bsC A3 l3.length d3 a3 s3).toArray
                  have kS9 := kS.srowFar (g := gY) (by omega) (bsC A3 l3.length d3 a3 s3).toArray
                  have kp9 := kp.srowFar (g := gY) (by omega) (bsC A3 l3.length d3 a3 s3).toArray
                  have hA9 := hA.grow (w' := w8.setRow gY (bsC A3 l3.length d3 a3 s3).toArray) (by rw [setRow_size]; exact Nat.le_refl _)
                  have hb9 := srow_below hb (show w.heap.size ≤ gY by omega) (bsC A3 l3.length d3 a3 s3).toArray
                  (try clear kY_0 kY_f0 kY_1 kY_f1 kY_2 kY_f2 lt_kY) ; (try clear kp_0 kp_f0 kp_1 kp_f1 lt_kp)
                  generalize w8.setRow gY (bsC A3 l3.length d3 a3 s3).toArray = w9 at *
                  clear kY kp kS r3 oW hA hb hA3Y hA2Y hW2Y
                  have rW9 := oW9.rd
                  have hs9 : w.heap.size + 1 ≤ w9.heap.size := kS9.lt
                  generalize hF : (fun k : Nat => (l2.take k).filter (fun p => !decide (p.who = y))) = F at *
                  have hFs : Hid (∀ k (h : k < l2.length), F (k + 1) = F k ++ if l2[k].who = y then [] else [l2[k]]) := fun k h => by subst hF; exact filt_snoc2 l2 y k h
                  have hF0 : Hid (F 0 = []) := by subst hF; simp [Hid]
                  have hFl : Hid (F l2.length = l3) := by subst hF; rw [hGl.out.1]; simp only [Hid, List.take_length]
                  have hFn : ∀ k, k ≤ l2.length → (F k).length ≤ k := fun k hk => by subst hF; exact Nat.le_trans (List.length_filter_le _ _) (by rw [List.length_take]; omega)
                  replace hFn := hide hFn
                  replace hz : Hid (0 ≤ a3 ∧ a3 ≤ 64 * ((k + 1 : Nat) : Int)) := by rw [hGl.out.2]; exact hz
                  clear hF hGl
                  go_wp2_with fail
                  go_loopw [14, 15] (fun v i wr => ∃ (j : Nat) (V : Option Addr) (cV : Nat), j ≤ l2.length ∧ i = .int .i64 j ∧ v = .slice V (F j).length cV ∧ wr.ownsRow w9.heap.size 60 2 (.slice V (F j).length cV) (F j).length (pbs (F j)) ∧ w9.heap.size ≤ wr.heap.size ∧ Below w9.heap.size w9 wr) (fun _ i _ => l2.length - (intOf i).toNat)
                  case atStart => exact ⟨0, none, 0, Nat.zero_le _, rfl, by rw [hF0.out]; rfl, by rw [hF0.out]; exact ⟨by simp, .inl ⟨rfl, rfl⟩⟩, Nat.le_refl _, Below.refl _ _⟩
                  case round =>
                    obtain ⟨j, V, cV, hj, rfl, rfl, own, hbw, hbL⟩ := hrel
                    have hn1 := hFn.out j hj
                    by_cases hjk : j < l2.length
                    · obtain ⟨aw, rfl, hawb, f0, f1⟩ := (rW9.below hbL).pb hjk
                      have HS := hide (hFs.out j hjk)
                      generalize hx : l2[j] = x at *
                      replace hx := hide hx
                      obtain ⟨y2, z2⟩ := x
                      dsimp only at f0 f1
                      have e0 := txt_bne y2 y
                      have e1 := txt_beq y2 y
                      have kp := kp9.step hbL
                      have kp_0 := kp.cell 0; have kp_f0 := kp.frozen 0; have kp_1 := kp.cell 1; have kp_f1 := kp.frozen 1; simp only [List.set_cons_zero, List.set_cons_succ, List.getElem?_cons_zero, List.getElem?_cons_succ] at kp_0 kp_1; have lt_kp := kp.lt
                      generalize hU : F j = U at *
                      generalize hVe : F (j + 1) = V' at *
                      replace hU := hide hU
                      replace hVe := hide hVe
                      clear kY9 r9 oW9 kS9 hA9 hFs hF0 hFl hFn
                      by_cases hyu : y2 = y
                      · rw [decide_eq_true hyu] at e0 e1
                        have HS2 : Hid (V' = U) := by unfold Hid; rw [HS.out]; dsimp only; rw [if_pos hyu, List.append_nil]
                        replace hyu := hide hyu
                        clear HS
                        go_wp2_with fail
                        go_quiet (fail)
                        go_wp2_with fail
                        go_roundw
                        case rel => exact ⟨j + 1, V, cV, by omega, by go_num, by rw [hVe.out, HS2.out], by rw [hVe.out, HS2.out]; exact own, hbw, hbL.drewN _⟩
                        case measure => simp [intOf]; omega
                      · rw [decide_eq_false hyu] at e0 e1
                        have HS2 : Hid (V' = U ++ [⟨y2, z2⟩]) := by unfold Hid; rw [HS.out]; dsimp only; rw [if_neg hyu]
                        have hyd : ¬ y2.data = y.data := fun h => hyu (ByteArray.ext h)
                        replace hyu := hide hyu
                        clear HS
                        go_upto_region 34 with fail
                        go_quiet (fail)
                        go_upto_region 35 with fail
                        generalize hW : World.drewN wr _ = wt
                        replace own : wt.ownsRow w9.heap.size 60 2 (.slice V U.length cV) U.length (pbs U) := by subst hW; exact own_drewN own _
                        replace hbL : Below w9.heap.size w9 wt := by subst hW; exact hbL.drewN _
                        replace hbw : w9.heap.size ≤ wt.heap.size := hbL.size
                        obtain ⟨aw', e', hawb', f0', f1'⟩ := (rW9.below hbL).pb hjk
                        cases e'
                        rw [hx.out] at f0' f1'
                        dsimp only at f0' f1'
                        (try clear kp_0 kp_f0 kp_1 kp_f1 lt_kp)
                        clear hW f0 f1 kp
                        go_wp2_with (at_builtin; refine wpList_app2 rfl (.tmp 155) (.tmp 160) 29 rfl w9.heap.size 60 iT _ 2 32 Try.underlying29 hi hz0 hz1 hz2 rfl (by omega) V U.length cV (pbs U) rfl (own.alloc _) ⟨wt.heap.size, 0, none⟩ 1 1 (pbC ⟨y2, z2⟩) rfl rfl (news_at (cs := [_, _])) (by simp [Value.oneCell']) (by unfold maxLen; omega) (by omega) (by simp; omega) (by omega) ?_; intro g2 cap wu own7 hb7 hgr7)
                        have hs7 := hb7.size
                        simp at hs7
                        have hbu : Below w9.heap.size w9 wu := (hbL.alloc1 _).trans hb7
                        have own8 : wu.ownsRow w9.heap.size 60 2 (.slice (some ⟨g2, 0, none⟩) V'.length cap) V'.length (pbs V') := by
                          rw [HS2.out, List.length_append, pbs_append, show pbs [(⟨y2, z2⟩ : Pb)] = pbC ⟨y2, z2⟩ by simp [pbs]]; exact own7
                        have HV : Hid (U.length + 1 = V'.length) := by unfold Hid; rw [HS2.out]; simp
                        clear own7 own hbL
                        go_wp2_with fail
                        go_roundw
                        case rel => exact ⟨j + 1, some ⟨g2, 0, none⟩, cap, by omega, by go_num, by rw [hVe.out, ← HV.out], by rw [hVe.out]; exact own8, by omega, hbu⟩
                        case measure => simp [intOf]; omega
                    · obtain rfl : j = l2.length := by omega
                      rw [hFl.out] at own
                      rw [hFl.out]
                      have kS := kS9.step hbL
                      have kY := kY9.step hbL
                      have r3 := r9.step hbL
                      have hA := (hA9.win (W' := V) (fun aw e => .inl (own_blk own aw e).1) hbL.size)
                      have oW := OwnW.of_own (own_mono30 own (show w.heap.size + 1 ≤ w9.heap.size from hs9))
                      have hb : Below w.heap.size w wr := hb9.step hbL
                      have hm1 := hm.step hb
                      have HGz := HG4
                      have hdz := hd3
                      clear kS9 kY9 r9 hA9 oW9 hb9 own rW9 kp9 hFs hF0 hFl hFn HG3 HG2 hlX hlg hlS hgX hg0 hg0' hn1 hj hjk
                      obtain ⟨y0, rfl⟩ : ∃ y0 : World, y0 = wr := ⟨_, rfl⟩
                      go_upto_region 37 with fail
                      have lS := kS.lt
                      have hCk := batch_Check_any A3 d3 l3 a3 s3 y0 (by have := HGz.out.len; dsimp only at this; omega) hdz HGz.out.2 hm1 r3
                      rw [show bCheck ⟨l3, a3, s3⟩ = 0 from HGz.out.1] at hCk
                      have hl64 := HGz.out.len
                      dsimp only at hl64
                      have kS_0 := kS.cell 0; have kS_f0 := kS.frozen 0; have kS_1 := kS.cell 1; have kS_f1 := kS.frozen 1; have kS_2 := kS.cell 2; have kS_f2 := kS.frozen 2; simp only [List.set_cons_zero, List.set_cons_succ, List.getElem?_cons_zero, List.getElem?_cons_succ] at kS_0 kS_1 kS_2; have lt_kS := kS.lt; have kY_0 := kY.cell 0; have kY_f0 := kY.frozen 0; have kY_1 := kY.cell 1; have kY_f1 := kY.frozen 1; have kY_2 := kY.cell 2; have kY_f2 := kY.frozen 2; simp only [List.set_cons_zero, List.set_cons_succ, List.getElem?_cons_zero, List.getElem?_cons_succ] at kY_0 kY_1 kY_2; have lt_kY := kY.lt
                      go_wp2_with fail
                      refine hCk.mono ?_; rintro e y1 ⟨rfl, hx⟩
                      replace hb := hb.step hx
                      replace hm1 := hm1.step hx
                      replace r3 := r3.step hx
                      replace oW := oW.step hx
                      replace hA := hA.grow hx.size
                      replace kS := kS.step hx; (try clear kS_0 kS_f0 kS_1 kS_f1 kS_2 kS_f2); have kS_0 := kS.cell 0; have kS_f0 := kS.frozen 0; have kS_1 := kS.cell 1; have kS_f1 := kS.frozen 1; have kS_2 := kS.cell 2; have kS_f2 := kS.frozen 2; simp only [List.set_cons_zero, List.set_cons_succ, List.getElem?_cons_zero, List.getElem?_cons_succ] at kS_0 kS_1 kS_2; (try clear lt_kS); have lt_kS := kS.lt; replace kY := kY.step hx; (try clear kY_0 kY_f0 kY_1 kY_f1 kY_2 kY_f2); have kY_0 := kY.cell 0; have kY_f0 := kY.frozen 0; have kY_1 := kY.cell 1; have kY_f1 := kY.frozen 1; have kY_2 := kY.cell 2; have kY_f2 := kY.frozen 2; simp only [List.set_cons_zero, List.set_cons_succ, List.getElem?_cons_zero, List.getElem?_cons_succ] at kY_0 kY_1 kY_2; (try clear lt_kY); have lt_kY := kY.lt
                      clear hx hCk
                      go_wp2_with fail
                      refine (law_probes_any A3 d3 l3 y1 (by omega) r3).mono ?_; rintro e y2 ⟨E1, f1, rfl, o1, hx⟩
                      replace hb := hb.step hx
                      replace r3 := r3.step hx
                      replace oW := oW.step hx
                      replace hA := hA.grow hx.size
                      have q1 := own_rd o1
                      replace kS := kS.step hx; (try clear kS_0 kS_f0 kS_1 kS_f1 kS_2 kS_f2); have kS_0 := kS.cell 0; have kS_f0 := kS.frozen 0; have kS_1 := kS.cell 1; have kS_f1 := kS.frozen 1; have kS_2 := kS.cell 2; have kS_f2 := kS.frozen 2; simp only [List.set_cons_zero, List.set_cons_succ, List.getElem?_cons_zero, List.getElem?_cons_succ] at kS_0 kS_1 kS_2; (try clear lt_kS); have lt_kS := kS.lt; replace kY := kY.step hx; (try clear kY_0 kY_f0 kY_1 kY_f1 kY_2 kY_f2); have kY_0 := kY.cell 0; have kY_f0 := kY.frozen 0; have kY_1 := kY.cell 1; have kY_f1 := kY.frozen 1; have kY_2 := kY.cell 2; have kY_f2 := kY.frozen 2; simp only [List.set_cons_zero, List.set_cons_succ, List.getElem?_cons_zero, List.getElem?_cons_succ] at kY_0 kY_1 kY_2; (try clear lt_kY); have lt_kY := kY.lt
                      clear hx o1
                      go_wp2_with fail
                      refine (law_probes_any V cV l3 y2 (by omega) oW.rd).mono ?_; rintro e y3 ⟨E2, f2, rfl, o2, hx⟩
                      replace hb := hb.step hx
                      replace r3 := r3.step hx
                      replace oW := oW.step hx
                      replace q1 := q1.step hx
                      replace hA := hA.grow hx.size
                      have q2 := own_rd o2
                      replace kS := kS.step hx; (try clear kS_0 kS_f0 kS_1 kS_f1 kS_2 kS_f2); have kS_0 := kS.cell 0; have kS_f0 := kS.frozen 0; have kS_1 := kS.cell 1; have kS_f1 := kS.frozen 1; have kS_2 := kS.cell 2; have kS_f2 := kS.frozen 2; simp only [List.set_cons_zero, List.set_cons_succ, List.getElem?_cons_zero, List.getElem?_cons_succ] at kS_0 kS_1 kS_2; (try clear lt_kS); have lt_kS := kS.lt; replace kY := kY.step hx; (try clear kY_0 kY_f0 kY_1 kY_f1 kY_2 kY_f2); have kY_0 := kY.cell 0; have kY_f0 := kY.frozen 0; have kY_1 := kY.cell 1; have kY_f1 := kY.frozen 1; have kY_2 := kY.cell 2; have kY_f2 := kY.frozen 2; simp only [List.set_cons_zero, List.set_cons_succ, List.getElem?_cons_zero, List.getElem?_cons_succ] at kY_0 kY_1 kY_2; (try clear lt_kY); have lt_kY := kY.lt
                      clear hx o2
                      have hSP := ref30_SameProbes_any E1 E2 f1 f2 l3 l3 y3 (by unfold maxLen; omega) q1 q2
                      rw [decide_eq_true rfl] at hSP
                      go_wp2_with fail
                      refine hSP.mono ?_; rintro e y4 ⟨rfl, n4, rfl⟩
                      clear hSP q1 q2
                      replace hb := hb.drewN n4
                      replace r3 : Rd (y3.drewN n4) (y3.drewN n4).heap.size A3 (pbs l3) := r3
                      replace oW := oW.drewN n4
                      replace hA : Ap w.heap.size (y3.drewN n4) A3 V := hA
                      have kS4 := kS.drewN n4
                      have kY4 := kY.drewN n4
                      (try clear kS_0 kS_f0 kS_1 kS_f1 kS_2 kS_f2 lt_kS) ; (try clear kY_0 kY_f0 kY_1 kY_f1 kY_2 kY_f2 lt_kY)
                      clear kS kY
                      generalize y3.drewN n4 = y5 at *
                      have kS4_0 := kS4.cell 0; have kS4_f0 := kS4.frozen 0; have kS4_1 := kS4.cell 1; have kS4_f1 := kS4.frozen 1; have kS4_2 := kS4.cell 2; have kS4_f2 := kS4.frozen 2; simp only [List.set_cons_zero, List.set_cons_succ, List.getElem?_cons_zero, List.getElem?_cons_succ] at kS4_0 kS4_1 kS4_2; have lt_kS4 := kS4.lt; have kY4_0 := kY4.cell 0; have kY4_f0 := kY4.frozen 0; have kY4_1 := kY4.cell 1; have kY4_f1 := kY4.frozen 1; have kY4_2 := kY4.cell 2; have kY4_f2 := kY4.frozen 2; simp only [List.set_cons_zero, List.set_cons_succ, List.getElem?_cons_zero, List.getElem?_cons_succ] at kY4_0 kY4_1 kY4_2; have lt_kY4 := kY4.lt
                      go_wp2_with (first | (refine wpList_store_row rfl 31 _ _ rfl _ (bsC A3 l3.length d3 a3 s3).toArray rfl rfl _ _ kS4 (by kernel_rfl) (by kernel_rfl) (by kernel_rfl) ?_))
                      have kS6 := kS4.srow (bsC A3 l3.length d3 a3 s3)
                      have r6 := r3.rowFar (fun ad e => (hA.1 ad e).1) (bsC A3 l3.length d3 a3 s3).toArray
                      have o6 := oW.rowFar (g := w.heap.size) (fun ad e => by have := (oW.blk ad e).1; omega) (bsC A3 l3.length d3 a3 s3).toArray
                      have h6 := hA.grow (w' := y5.setRow w.heap.size (bsC A3 l3.length d3 a3 s3).toArray) (by rw [setRow_size]; exact Nat.le_refl _)
                      have b6 := srow_below hb (Nat.le_refl _) (bsC A3 l3.length d3 a3 s3).toArray
                      have HF : Hid (Gd ⟨l3, a3, s3⟩ ∧ 0 ≤ a3 ∧ a3 ≤ 64 * ((k + 1 : Nat) : Int)) := ⟨HGz.out, hz.out⟩
                      go_roundw
                      case rel => exact ⟨k + 1, ⟨l3, a3, s3⟩, A3, V, d3, cV, by omega, by go_num, rfl, HF, kS6, hdz, r6, h6, o6, b6⟩
                      case measure => simp [intOf]; omega
end Go.Proofs.Ytfgfkiifekeeaaa
