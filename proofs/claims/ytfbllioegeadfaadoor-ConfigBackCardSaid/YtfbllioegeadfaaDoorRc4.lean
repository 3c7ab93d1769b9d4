/- The reference of package config: of. (Printed by gen32o.py.) -/
import Derived.Test.YtfbllioegeadfaaDoorRc3
import Derived.BigRegion
import Derived.Deep.RegionHeld3
namespace Go.Proofs.YtfbllioegeadfaaDoor
open Go.RowKit
set_option linter.unusedSimpArgs false
set_option linter.unusedVariables false

def ofS1 (v : Nat → Int) : Nat → List Value
  | 0 => [.int .i64 (v 5), .int .i64 (v 6), .int .i64 (v 7), .int .i64 (v 8), .int .i64 0, .int .i64 0, .int .i64 0, .int .i64 0, .int .i64 0, .int .i64 0, .int .i64 0, .int .i64 0, .int .i64 0, .int .i64 0, .int .i64 0, .int .i64 0, .int .i64 0, .int .i64 0, .int .i64 0, .int .i64 (v 0), .int .i64 (v 1), .int .i64 (v 2), .int .i64 (v 3), .int .i64 (v 4)]
  | k + 1 => ((ofS1 v k).set (4 + k) (.int .i64 (v (9 + k)))).set (7 + k) (.int .i64 (v (12 + k)))
def ofS2 (v : Nat → Int) : Nat → List Value
  | 0 => (ofS1 v 3).set 10 (.int .i64 (v 15))
  | k + 1 => ((ofS2 v k).set (11 + k) (.int .i64 (v (16 + k)))).set (15 + k) (.int .i64 (v (20 + k)))
theorem ofS1_len (v : Nat → Int) : ∀ k, (ofS1 v k).length = 24
  | 0 => rfl
  | k + 1 => by rw [ofS1, List.length_set, List.length_set, ofS1_len v k]
theorem ofS2_len (v : Nat → Int) : ∀ k, (ofS2 v k).length = 24
  | 0 => by rw [ofS2, List.length_set, ofS1_len]
  | k + 1 => by rw [ofS2, List.length_set, List.length_set, ofS2_len v k]
def ofV (v : Nat → Int) : CC := ⟨⟨v 5, v 6, v 7, v 8, fun k => v (9 + k), fun k => v (12 + k), v 15, fun k => v (16 + k), fun k => v (20 + k)⟩, v 0, v 1, v 2, v 3, v 4⟩
theorem ofS_end (v : Nat → Int) : ofS2 v 4 = (ofV v).C := by kernel_rfl
theorem ofL_V (l : List Int) : ofL l = ofV fun j => l.getD j 0 := rfl
set_option maxRecDepth 100000 in
set_option maxHeartbeats 16000000 in
theorem r32_of_v (v : Nat → Int) (g d : Nat) (w : World) (hd : 24 ≤ d) (hg : g < w.heap.size) (hc : ∀ j, j < 24 → w.cell? ⟨g, j, none⟩ = some (.int .i64 (v j))) :
    Calls Tryd.prog 18 #[.slice (some ⟨g, 0, none⟩) 24 d] w fun e w' => e = .returned (ofV v).V ∧ Below w.heap.size w w' := by
  have hrow : ∀ W, Below w.heap.size w W → ∀ j, j < 24 → W.cell? ⟨g, j, none⟩ = some (.int .i64 (v j)) := fun W hb j hj => (hb.cell (p := ⟨g, j, none⟩) hg).trans (hc j hj)
  have hne0 : g ≠ w.heap.size := by omega
  have hne1 : g ≠ w.heap.size + 1 := by omega
  clear hc
  replace hrow := hide hrow
  obtain ⟨a0, ha0⟩ : ∃ a : Int, Hid (a = v 0) := ⟨_, rfl⟩
  obtain ⟨a1, ha1⟩ : ∃ a : Int, Hid (a = v 1) := ⟨_, rfl⟩
  obtain ⟨a2, ha2⟩ : ∃ a : Int, Hid (a = v 2) := ⟨_, rfl⟩
  obtain ⟨a3, ha3⟩ : ∃ a : Int, Hid (a = v 3) := ⟨_, rfl⟩
  obtain ⟨a4, ha4⟩ : ∃ a : Int, Hid (a = v 4) := ⟨_, rfl⟩
  obtain ⟨a5, ha5⟩ : ∃ a : Int, Hid (a = v 5) := ⟨_, rfl⟩
  obtain ⟨a6, ha6⟩ : ∃ a : Int, Hid (a = v 6) := ⟨_, rfl⟩
  obtain ⟨a7, ha7⟩ : ∃ a : Int, Hid (a = v 7) := ⟨_, rfl⟩
  obtain ⟨a8, ha8⟩ : ∃ a : Int, Hid (a = v 8) := ⟨_, rfl⟩
  go_enter Tryd.func18, Tryd.ntmps18
  go_upto_region 2 with fail
  generalize hV : World.alloc (World.alloc w _) _ = w1
  have hbx : Below w.heap.size w w1 := by subst hV; (repeat (first | with_reducible exact Below.refl _ _ | with_reducible assumption | with_reducible refine Below.drew ?_ | with_reducible refine Below.drewN ?_ _ | with_reducible refine Below.alloc1 ?_ _ | with_reducible refine Below.setCell1 ?_ (by first | omega | (simp; done) | (simp; omega)) _ | with_reducible refine Below.step ?_ (by with_reducible assumption)))
  have k0 : Bk w1 w.heap.size 44 [.int .i64 0, .int .i64 0, .int .i64 0, .int .i64 0, .int .i64 0, .int .i64 0, .int .i64 0, .int .i64 0, .int .i64 0, .int .i64 0, .int .i64 0, .int .i64 0, .int .i64 0, .int .i64 0, .int .i64 0, .int .i64 0, .int .i64 0, .int .i64 0, .int .i64 0, .int .i64 0, .int .i64 0, .int .i64 0, .int .i64 0, .int .i64 0] := by subst hV; exact (Bk.new w _ _).alloc _
  have k1 : Bk w1 (w.heap.size + 1) 44 [.int .i64 0, .int .i64 0, .int .i64 0, .int .i64 0, .int .i64 0, .int .i64 0, .int .i64 0, .int .i64 0, .int .i64 0, .int .i64 0, .int .i64 0, .int .i64 0, .int .i64 0, .int .i64 0, .int .i64 0, .int .i64 0, .int .i64 0, .int .i64 0, .int .i64 0, .int .i64 0, .int .i64 0, .int .i64 0, .int .i64 0, .int .i64 0] := by subst hV; exact Bk.new' _ _ _ _ (by simp)
  clear hV
  have c0 : w1.cell? ⟨g, 0, none⟩ = some (.int .i64 a0) := (hrow.out w1 hbx 0 (by decide)).trans (by rw [ha0.out])
  have c1 : w1.cell? ⟨g, 1, none⟩ = some (.int .i64 a1) := (hrow.out w1 hbx 1 (by decide)).trans (by rw [ha1.out])
  have c2 : w1.cell? ⟨g, 2, none⟩ = some (.int .i64 a2) := (hrow.out w1 hbx 2 (by decide)).trans (by rw [ha2.out])
  have c3 : w1.cell? ⟨g, 3, none⟩ = some (.int .i64 a3) := (hrow.out w1 hbx 3 (by decide)).trans (by rw [ha3.out])
  have c4 : w1.cell? ⟨g, 4, none⟩ = some (.int .i64 a4) := (hrow.out w1 hbx 4 (by decide)).trans (by rw [ha4.out])
  have k1_19 := k1.cell 19; have k1_f19 := k1.frozen 19; have k1_20 := k1.cell 20; have k1_f20 := k1.frozen 20; have k1_21 := k1.cell 21; have k1_f21 := k1.frozen 21; have k1_22 := k1.cell 22; have k1_f22 := k1.frozen 22; have k1_23 := k1.cell 23; have k1_f23 := k1.frozen 23; simp only [List.set_cons_zero, List.set_cons_succ, List.getElem?_cons_zero, List.getElem?_cons_succ] at k1_19 k1_20 k1_21 k1_22 k1_23
  have ltx := k1.lt
  have HS : Hid (∀ w' : World, Below (w.heap.size) w1 w' → (w'.cell? ⟨g, 0, none⟩ = some (.int .i64 a0) ∧ w'.cell? ⟨g, 1, none⟩ = some (.int .i64 a1) ∧ w'.cell? ⟨g, 2, none⟩ = some (.int .i64 a2) ∧ w'.cell? ⟨g, 3, none⟩ = some (.int .i64 a3) ∧ w'.cell? ⟨g, 4, none⟩ = some (.int .i64 a4)) ∧ w1.heap.size ≤ w'.heap.size ∧ Below (w.heap.size) w1 w') := fun w' hB => ⟨⟨(hB.cell (p := ⟨g, 0, none⟩) (hg)).trans (c0), (hB.cell (p := ⟨g, 1, none⟩) (hg)).trans (c1), (hB.cell (p := ⟨g, 2, none⟩) (hg)).trans (c2), (hB.cell (p := ⟨g, 3, none⟩) (hg)).trans (c3), (hB.cell (p := ⟨g, 4, none⟩) (hg)).trans (c4)⟩, hB.size, hB⟩; go_region_held3 (fun w' => (w'.cell? ⟨g, 0, none⟩ = some (.int .i64 a0) ∧ w'.cell? ⟨g, 1, none⟩ = some (.int .i64 a1) ∧ w'.cell? ⟨g, 2, none⟩ = some (.int .i64 a2) ∧ w'.cell? ⟨g, 3, none⟩ = some (.int .i64 a3) ∧ w'.cell? ⟨g, 4, none⟩ = some (.int .i64 a4)) ∧ w1.heap.size ≤ w'.heap.size ∧ Below (w.heap.size) w1 w') ((go_split_ands; exact HS.out _ (by (repeat (first | with_reducible exact Below.refl _ _ | with_reducible assumption | with_reducible refine Below.drew ?_ | with_reducible refine Below.drewN ?_ _ | with_reducible refine Below.alloc ?_ (by first | omega | (simp; done) | (simp; omega)) _ | with_reducible refine Below.setCell ?_ (by first | omega | (simp; done) | (simp; omega)) _ | with_reducible refine Below.then_ ?_ (by with_reducible assumption) (by first | omega | (simp; done) | (simp; omega))))))) (fail)
  (try clear HS)
  (try clear k1_19 k1_f19 k1_20 k1_f20 k1_21 k1_f21 k1_22 k1_f22 k1_23 k1_f23)
  generalize hV : World.drew _ = w2
  have hby : Below w.heap.size w w2 := by subst hV; exact ((((((hbx.setCell1 (by simp) _).setCell1 (by simp) _).setCell1 (by simp) _).setCell1 (by simp) _).setCell1 (by simp) _)).drew
  have ky : Bk w2 (w.heap.size + 1) 44 [.int .i64 0, .int .i64 0, .int .i64 0, .int .i64 0, .int .i64 0, .int .i64 0, .int .i64 0, .int .i64 0, .int .i64 0, .int .i64 0, .int .i64 0, .int .i64 0, .int .i64 0, .int .i64 0, .int .i64 0, .int .i64 0, .int .i64 0, .int .i64 0, .int .i64 0, .int .i64 a0, .int .i64 a1, .int .i64 a2, .int .i64 a3, .int .i64 a4] := by subst hV; exact (((((k1.set_ 19 _).set_ 20 _).set_ 21 _).set_ 22 _).set_ 23 _).drew
  have kz : Bk w2 w.heap.size 44 [.int .i64 0, .int .i64 0, .int .i64 0, .int .i64 0, .int .i64 0, .int .i64 0, .int .i64 0, .int .i64 0, .int .i64 0, .int .i64 0, .int .i64 0, .int .i64 0, .int .i64 0, .int .i64 0, .int .i64 0, .int .i64 0, .int .i64 0, .int .i64 0, .int .i64 0, .int .i64 0, .int .i64 0, .int .i64 0, .int .i64 0, .int .i64 0] := by subst hV; exact ((((((k0.far (by simp) _).far (by simp) _).far (by simp) _).far (by simp) _).far (by simp) _)).drew
  clear hV k1 k0 hbx c0 c1 c2 c3 c4 ltx
  have hbx := hby; have k1 := ky; have k0 := kz; clear hby ky kz
  go_wp2_with fail
  have c5 : w2.cell? ⟨g, 5, none⟩ = some (.int .i64 a5) := (hrow.out w2 hbx 5 (by decide)).trans (by rw [ha5.out])
  have c6 : w2.cell? ⟨g, 6, none⟩ = some (.int .i64 a6) := (hrow.out w2 hbx 6 (by decide)).trans (by rw [ha6.out])
  have c7 : w2.cell? ⟨g, 7, none⟩ = some (.int .i64 a7) := (hrow.out w2 hbx 7 (by decide)).trans (by rw [ha7.out])
  have c8 : w2.cell? ⟨g, 8, none⟩ = some (.int .i64 a8) := (hrow.out w2 hbx 8 (by decide)).trans (by rw [ha8.out])
  have k1_0 := k1.cell 0; have k1_f0 := k1.frozen 0; have k1_1 := k1.cell 1; have k1_f1 := k1.frozen 1; have k1_2 := k1.cell 2; have k1_f2 := k1.frozen 2; have k1_3 := k1.cell 3; have k1_f3 := k1.frozen 3; simp only [List.set_cons_zero, List.set_cons_succ, List.getElem?_cons_zero, List.getElem?_cons_succ] at k1_0 k1_1 k1_2 k1_3
  have ltx := k1.lt
  have HS : Hid (∀ w' : World, Below (w.heap.size) w2 w' → (w'.cell? ⟨g, 5, none⟩ = some (.int .i64 a5) ∧ w'.cell? ⟨g, 6, none⟩ = some (.int .i64 a6) ∧ w'.cell? ⟨g, 7, none⟩ = some (.int .i64 a7) ∧ w'.cell? ⟨g, 8, none⟩ = some (.int .i64 a8)) ∧ w2.heap.size ≤ w'.heap.size ∧ Below (w.heap.size) w2 w') := fun w' hB => ⟨⟨(hB.cell (p := ⟨g, 5, none⟩) (hg)).trans (c5), (hB.cell (p := ⟨g, 6, none⟩) (hg)).trans (c6), (hB.cell (p := ⟨g, 7, none⟩) (hg)).trans (c7), (hB.cell (p := ⟨g, 8, none⟩) (hg)).trans (c8)⟩, hB.size, hB⟩; go_region_held3 (fun w' => (w'.cell? ⟨g, 5, none⟩ = some (.int .i64 a5) ∧ w'.cell? ⟨g, 6, none⟩ = some (.int .i64 a6) ∧ w'.cell? ⟨g, 7, none⟩ = some (.int .i64 a7) ∧ w'.cell? ⟨g, 8, none⟩ = some (.int .i64 a8)) ∧ w2.heap.size ≤ w'.heap.size ∧ Below (w.heap.size) w2 w') ((go_split_ands; exact HS.out _ (by (repeat (first | with_reducible exact Below.refl _ _ | with_reducible assumption | with_reducible refine Below.drew ?_ | with_reducible refine Below.drewN ?_ _ | with_reducible refine Below.alloc ?_ (by first | omega | (simp; done) | (simp; omega)) _ | with_reducible refine Below.setCell ?_ (by first | omega | (simp; done) | (simp; omega)) _ | with_reducible refine Below.then_ ?_ (by with_reducible assumption) (by first | omega | (simp; done) | (simp; omega))))))) (fail)
  (try clear HS)
  (try clear k1_0 k1_f0 k1_1 k1_f1 k1_2 k1_f2 k1_3 k1_f3)
  generalize hV : World.drew _ = w3
  have hby : Below w.heap.size w w3 := by subst hV; exact (((((hbx.setCell1 (by simp) _).setCell1 (by simp) _).setCell1 (by simp) _).setCell1 (by simp) _)).drew
  have ky : Bk w3 (w.heap.size + 1) 44 [.int .i64 a5, .int .i64 a6, .int .i64 a7, .int .i64 a8, .int .i64 0, .int .i64 0, .int .i64 0, .int .i64 0, .int .i64 0, .int .i64 0, .int .i64 0, .int .i64 0, .int .i64 0, .int .i64 0, .int .i64 0, .int .i64 0, .int .i64 0, .int .i64 0, .int .i64 0, .int .i64 a0, .int .i64 a1, .int .i64 a2, .int .i64 a3, .int .i64 a4] := by subst hV; exact ((((k1.set_ 0 _).set_ 1 _).set_ 2 _).set_ 3 _).drew
  have kz : Bk w3 w.heap.size 44 [.int .i64 0, .int .i64 0, .int .i64 0, .int .i64 0, .int .i64 0, .int .i64 0, .int .i64 0, .int .i64 0, .int .i64 0, .int .i64 0, .int .i64 0, .int .i64 0, .int .i64 0, .int .i64 0, .int .i64 0, .int .i64 0, .int .i64 0, .int .i64 0, .int .i64 0, .int .i64 0, .int .i64 0, .int .i64 0, .int .i64 0, .int .i64 0] := by subst hV; exact (((((k0.far (by simp) _).far (by simp) _).far (by simp) _).far (by simp) _)).drew
  clear hV k1 k0 hbx c5 c6 c7 c8 ltx
  have hbx := hby; have k1 := ky; have k0 := kz; clear hby ky kz
  go_wp2_with fail
  go_loopw [4] (fun i wr => ∃ k : Nat, k ≤ 3 ∧ i = .int .i64 k ∧ Below w.heap.size w wr ∧ Bk wr w.heap.size 44 [.int .i64 0, .int .i64 0, .int .i64 0, .int .i64 0, .int .i64 0, .int .i64 0, .int .i64 0, .int .i64 0, .int .i64 0, .int .i64 0, .int .i64 0, .int .i64 0, .int .i64 0, .int .i64 0, .int .i64 0, .int .i64 0, .int .i64 0, .int .i64 0, .int .i64 0, .int .i64 0, .int .i64 0, .int .i64 0, .int .i64 0, .int .i64 0] ∧ Bk wr (w.heap.size + 1) 44 (ofS1 v k)) (fun i _ => 3 - (intOf i).toNat)
  case atStart => exact ⟨0, by decide, rfl, hbx, k0, by rw [ofS1, ← ha0.out, ← ha1.out, ← ha2.out, ← ha3.out, ← ha4.out, ← ha5.out, ← ha6.out, ← ha7.out, ← ha8.out]; exact k1⟩
  case round =>
    clear hbx k0 k1
    obtain ⟨k, hk, rfl, hbx, k0, k1⟩ := hrel
    by_cases hlt : k < 3
    · have hki : (k : Int) < 3 := by omega
      have hln := ofS1_len v k
      have ca := hrow.out wr hbx (9 + k) (by omega)
      have cb := hrow.out wr hbx (12 + k) (by omega)
      obtain ⟨v1, hv1⟩ : ∃ u, (ofS1 v k)[4 + k]? = some u := ⟨_, List.getElem?_eq_getElem (by omega)⟩
      obtain ⟨v2, hv2⟩ : ∃ u, (ofS1 v k)[7 + k]? = some u := ⟨_, List.getElem?_eq_getElem (by omega)⟩
      have s1 := (k1.cell (4 + k)).trans hv1
      have s2 := (k1.cell (7 + k)).trans hv2
      have f1 := k1.frozen (4 + k)
      have f2 := k1.frozen (7 + k)
      have ltx := k1.lt
      have e1 := IntWalk.i64_in ((9 : Int) + (k : Int)) (by omega)
      have e2 := IntWalk.i64_in ((12 : Int) + (k : Int)) (by omega)
      have b1 : (9 : Int) + (k : Int) < 24 := by omega
      have b2 : (12 : Int) + (k : Int) < 24 := by omega
      have b1n : (0 : Int) ≤ (9 : Int) + (k : Int) := by omega
      have b2n : (0 : Int) ≤ (12 : Int) + (k : Int) := by omega
      have t1 : ((9 : Int) + (k : Int)).toNat = 9 + k := by omega
      have t2 : ((12 : Int) + (k : Int)).toNat = 12 + k := by omega
      have hne : 4 + k ≠ 7 + k := by omega
      clear hv1 hv2 hln
      go_wp2_with fail
      have HS : Hid (∀ w' : World, Below (w.heap.size) wr w' → (w'.cell? ⟨g, 9 + k, none⟩ = some (.int .i64 (v (9 + k))) ∧ w'.cell? ⟨g, 12 + k, none⟩ = some (.int .i64 (v (12 + k)))) ∧ wr.heap.size ≤ w'.heap.size ∧ Below (w.heap.size) wr w') := fun w' hB => ⟨⟨(hB.cell (p := ⟨g, 9 + k, none⟩) (hg)).trans (ca), (hB.cell (p := ⟨g, 12 + k, none⟩) (hg)).trans (cb)⟩, hB.size, hB⟩; go_region_held3 (fun w' => (w'.cell? ⟨g, 9 + k, none⟩ = some (.int .i64 (v (9 + k))) ∧ w'.cell? ⟨g, 12 + k, none⟩ = some (.int .i64 (v (12 + k)))) ∧ wr.heap.size ≤ w'.heap.size ∧ Below (w.heap.size) wr w') ((go_split_ands; exact HS.out _ (by (repeat (first | with_reducible exact Below.refl _ _ | with_reducible assumption | with_reducible refine Below.drew ?_ | with_reducible refine Below.drewN ?_ _ | with_reducible refine Below.alloc ?_ (by first | omega | (simp; done) | (simp; omega)) _ | with_reducible refine Below.setCell ?_ (by first | omega | (simp; done) | (simp; omega)) _ | with_reducible refine Below.then_ ?_ (by with_reducible assumption) (by first | omega | (simp; done) | (simp; omega))))))) (fail)
      (try clear HS)
      generalize hV : World.drew _ = wz
      have hby : Below w.heap.size w wz := by subst hV; exact ((hbx.setCell1 (by simp) _).setCell1 (by simp) _).drew
      have ky : Bk wz (w.heap.size + 1) 44 (ofS1 v (k + 1)) := by subst hV; exact ((k1.set_ (4 + k) _).set_ (7 + k) _).drew
      have kz : Bk wz w.heap.size 44 [.int .i64 0, .int .i64 0, .int .i64 0, .int .i64 0, .int .i64 0, .int .i64 0, .int .i64 0, .int .i64 0, .int .i64 0, .int .i64 0, .int .i64 0, .int .i64 0, .int .i64 0, .int .i64 0, .int .i64 0, .int .i64 0, .int .i64 0, .int .i64 0, .int .i64 0, .int .i64 0, .int .i64 0, .int .i64 0, .int .i64 0, .int .i64 0] := by subst hV; exact ((k0.far (by simp) _).far (by simp) _).drew
      clear hV k1 k0 hbx ca cb s1 s2 f1 f2 ltx e1 e2
      go_wp2_with fail
      go_roundw
      case rel => exact ⟨k + 1, hlt, by go_num, hby, kz, ky⟩
      case measure => simp [intOf]; omega
    · obtain rfl : k = 3 := by omega
      rw [show (((3 : Nat)) : Int) = 3 from rfl]
      have c15 := hrow.out wr hbx 15 (by decide)
      have hln := ofS1_len v 3
      obtain ⟨v1, hv1⟩ : ∃ u, (ofS1 v 3)[10]? = some u := ⟨_, List.getElem?_eq_getElem (by omega)⟩
      have s1 := (k1.cell 10).trans hv1
      have f1 := k1.frozen 10
      have ltx := k1.lt
      clear hv1 hln hk
      go_wp2_with fail
      generalize hV : World.setCell wr _ _ = wz
      have hby : Below w.heap.size w wz := by subst hV; exact hbx.setCell1 (by simp) _
      have ky : Bk wz (w.heap.size + 1) 44 (ofS2 v 0) := by subst hV; exact k1.set_ 10 _
      have kz : Bk wz w.heap.size 44 [.int .i64 0, .int .i64 0, .int .i64 0, .int .i64 0, .int .i64 0, .int .i64 0, .int .i64 0, .int .i64 0, .int .i64 0, .int .i64 0, .int .i64 0, .int .i64 0, .int .i64 0, .int .i64 0, .int .i64 0, .int .i64 0, .int .i64 0, .int .i64 0, .int .i64 0, .int .i64 0, .int .i64 0, .int .i64 0, .int .i64 0, .int .i64 0] := by subst hV; exact k0.far (by simp) _
      clear hV k1 k0 hbx c15 s1 f1 ltx
      have hbx := hby; have k1 := ky; have k0 := kz; clear hby ky kz
      go_loopw [5] (fun i wr => ∃ k : Nat, k ≤ 4 ∧ i = .int .i64 k ∧ Below w.heap.size w wr ∧ Bk wr w.heap.size 44 [.int .i64 0, .int .i64 0, .int .i64 0, .int .i64 0, .int .i64 0, .int .i64 0, .int .i64 0, .int .i64 0, .int .i64 0, .int .i64 0, .int .i64 0, .int .i64 0, .int .i64 0, .int .i64 0, .int .i64 0, .int .i64 0, .int .i64 0, .int .i64 0, .int .i64 0, .int .i64 0, .int .i64 0, .int .i64 0, .int .i64 0, .int .i64 0] ∧ Bk wr (w.heap.size + 1) 44 (ofS2 v k)) (fun i _ => 4 - (intOf i).toNat)
      case atStart => exact ⟨0, by decide, rfl, hbx, k0, k1⟩
      case round =>
        clear hbx k0 k1
        obtain ⟨k, hk, rfl, hbx, k0, k1⟩ := hrel
        by_cases hlt : k < 4
        · have hki : (k : Int) < 4 := by omega
          have hln := ofS2_len v k
          have ca := hrow.out wr hbx (16 + k) (by omega)
          have cb := hrow.out wr hbx (20 + k) (by omega)
          obtain ⟨v1, hv1⟩ : ∃ u, (ofS2 v k)[11 + k]? = some u := ⟨_, List.getElem?_eq_getElem (by omega)⟩
          obtain ⟨v2, hv2⟩ : ∃ u, (ofS2 v k)[15 + k]? = some u := ⟨_, List.getElem?_eq_getElem (by omega)⟩
          have s1 := (k1.cell (11 + k)).trans hv1
          have s2 := (k1.cell (15 + k)).trans hv2
          have f1 := k1.frozen (11 + k)
          have f2 := k1.frozen (15 + k)
          have ltx := k1.lt
          have e1 := IntWalk.i64_in ((16 : Int) + (k : Int)) (by omega)
          have e2 := IntWalk.i64_in ((20 : Int) + (k : Int)) (by omega)
          have b1 : (16 : Int) + (k : Int) < 24 := by omega
          have b2 : (20 : Int) + (k : Int) < 24 := by omega
          have b1n : (0 : Int) ≤ (16 : Int) + (k : Int) := by omega
          have b2n : (0 : Int) ≤ (20 : Int) + (k : Int) := by omega
          have t1 : ((16 : Int) + (k : Int)).toNat = 16 + k := by omega
          have t2 : ((20 : Int) + (k : Int)).toNat = 20 + k := by omega
          have hne : 11 + k ≠ 15 + k := by omega
          clear hv1 hv2 hln
          go_wp2_with fail
          have HS : Hid (∀ w' : World, Below (w.heap.size) wr w' → (w'.cell? ⟨g, 16 + k, none⟩ = some (.int .i64 (v (16 + k))) ∧ w'.cell? ⟨g, 20 + k, none⟩ = some (.int .i64 (v (20 + k)))) ∧ wr.heap.size ≤ w'.heap.size ∧ Below (w.heap.size) wr w') := fun w' hB => ⟨⟨(hB.cell (p := ⟨g, 16 + k, none⟩) (hg)).trans (ca), (hB.cell (p := ⟨g, 20 + k, none⟩) (hg)).trans (cb)⟩, hB.size, hB⟩; go_region_held3 (fun w' => (w'.cell? ⟨g, 16 + k, none⟩ = some (.int .i64 (v (16 + k))) ∧ w'.cell? ⟨g, 20 + k, none⟩ = some (.int .i64 (v (20 + k)))) ∧ wr.heap.size ≤ w'.heap.size ∧ Below (w.heap.size) wr w') ((go_split_ands; exact HS.out _ (by (repeat (first | with_reducible exact Below.refl _ _ | with_reducible assumption | with_reducible refine Below.drew ?_ | with_reducible refine Below.drewN ?_ _ | with_reducible refine Below.alloc ?_ (by first | omega | (simp; done) | (simp; omega)) _ | with_reducible refine Below.setCell ?_ (by first | omega | (simp; done) | (simp; omega)) _ | with_reducible refine Below.then_ ?_ (by with_reducible assumption) (by first | omega | (simp; done) | (simp; omega))))))) (fail)
          (try clear HS)
          generalize hV : World.drew _ = wz
          have hby : Below w.heap.size w wz := by subst hV; exact ((hbx.setCell1 (by simp) _).setCell1 (by simp) _).drew
          have ky : Bk wz (w.heap.size + 1) 44 (ofS2 v (k + 1)) := by subst hV; exact ((k1.set_ (11 + k) _).set_ (15 + k) _).drew
          have kz : Bk wz w.heap.size 44 [.int .i64 0, .int .i64 0, .int .i64 0, .int .i64 0, .int .i64 0, .int .i64 0, .int .i64 0, .int .i64 0, .int .i64 0, .int .i64 0, .int .i64 0, .int .i64 0, .int .i64 0, .int .i64 0, .int .i64 0, .int .i64 0, .int .i64 0, .int .i64 0, .int .i64 0, .int .i64 0, .int .i64 0, .int .i64 0, .int .i64 0, .int .i64 0] := by subst hV; exact ((k0.far (by simp) _).far (by simp) _).drew
          clear hV k1 k0 hbx ca cb s1 s2 f1 f2 ltx e1 e2
          go_wp2_with fail
          go_roundw
          case rel => exact ⟨k + 1, hlt, by go_num, hby, kz, ky⟩
          case measure => simp [intOf]; omega
        · obtain rfl : k = 4 := by omega
          rw [ofS_end] at k1
          have hne2 : w.heap.size ≠ w.heap.size + 1 := by omega
          go_wp2_with (first | (refine wpList_load_row rfl 44 _ rfl _ rfl _ _ (0, 0) _ k1 Tryd.underlying44 rfl (by kernel_rfl) ?_) | (refine wpList_store_row rfl 44 _ _ rfl _ ((ofV v).C).toArray rfl rfl _ _ k0 (by kernel_rfl) (by kernel_rfl) (by kernel_rfl) ?_))
          refine bodyPost_ret (v := (ofV v).V) ?_ rfl ⟨rfl, setRow_below hbx (Nat.le_refl _) _⟩
          exact results_cell_row rfl _ _ w.heap.size _ _ (0, 0) _ rfl (k0.row _) Tryd.underlying44 rfl (by kernel_rfl)
end Go.Proofs.YtfbllioegeadfaaDoor
