/- Package source: Clean. -/
import Derived.Test.YtolpiaehleefbaaSrc3
import Derived.Deep.RegionHeld3
namespace Go.Proofs.Ytolpiaehleefbaa
open Go.RowKit Go.Sort
set_option linter.unusedSimpArgs false
set_option linter.unusedVariables false

theorem own_base14 {w : World} {base b' : Nat} {e : TypeId} {size m : Nat} {v : Value} {xs : List Value} (h : w.ownsRow base e size v m xs) (hb : b' ≤ base) : w.ownsRow b' e size v m xs := by
  refine ⟨h.1, ?_⟩
  rcases h.2 with h | ⟨g, cap, cur, hv, hg, r⟩
  · exact .inl h
  · exact .inr ⟨g, cap, cur, hv, Nat.le_trans hb hg, r⟩
def eFull (b r now : Int) (x : En) : Bool := bLevel b r x.t x.a now == b
def eClean (b r : Int) (l : List En) (now : Int) : List En := if eCheck b r l ≠ 0 then l else l.filter fun x => !eFull b r now x
set_option maxRecDepth 100000 in
set_option maxHeartbeats 4000000 in
theorem source_Clean1_any (x : En) (b r now : Int) (g h : Nat) (w : World) (hg : g < w.heap.size) (hh : h < w.heap.size) (h0 : w.cell? ⟨g, 0, none⟩ = some (.int .i64 b)) (h1 : w.cell? ⟨g, 1, none⟩ = some (.int .i64 r)) (h2 : w.cell? ⟨h, 0, none⟩ = some (.int .i64 now)) :
    Calls Try.prog 79 (#[enV x] ++ #[.pointer (some ⟨g, 0, none⟩), .pointer (some ⟨h, 0, none⟩)]) w fun e w' => e = .returned (.bool (eFull b r now x)) ∧ Below w.heap.size w w' := by
  show Calls Try.prog 79 #[enV x, .pointer (some ⟨g, 0, none⟩), .pointer (some ⟨h, 0, none⟩)] w _
  have hL := fun W => bucket_Level_any b r x.t x.a now W
  have HE := hide (show eFull b r now x = (bLevel b r x.t x.a now == b) from rfl)
  generalize bLevel b r x.t x.a now = L at *
  go_enter Try.func79, Try.ntmps79
  go_wp2_with fail
  generalize hV : World.alloc w _ = w1
  have hb1 : Below w.heap.size w w1 := by subst hV; (repeat (first | with_reducible exact Below.refl _ _ | with_reducible assumption | with_reducible refine Below.drew ?_ | with_reducible refine Below.drewN ?_ _ | with_reducible refine Below.alloc1 ?_ _ | with_reducible refine Below.setCell1 ?_ (by first | omega | (simp; done) | (simp; omega)) _ | with_reducible refine Below.step ?_ (by with_reducible assumption)))
  have kx : Bk w1 w.heap.size 146 (enC x) := by subst hV; (repeat (first | with_reducible exact Bk.new' _ _ _ _ (by simp; done) | with_reducible assumption | with_reducible refine Bk.alloc ?_ _ | with_reducible refine Bk.drew ?_ | with_reducible refine Bk.drewN ?_ _ | with_reducible refine Bk.step ?_ (by with_reducible assumption) | with_reducible refine Bk.far ?_ (by first | omega | (simp; done) | (simp; omega)) _))
  clear hV
  have h0' := (hb1.cell (p := ⟨g, 0, none⟩) hg).trans h0
  have h1' := (hb1.cell (p := ⟨g, 1, none⟩) hg).trans h1
  have h2' := (hb1.cell (p := ⟨h, 0, none⟩) hh).trans h2
  have hz := hb1.size
  have kx_0 := kx.cell 0; have kx_f0 := kx.frozen 0; have kx_1 := kx.cell 1; have kx_f1 := kx.frozen 1; have kx_2 := kx.cell 2; have kx_f2 := kx.frozen 2; simp only [List.set_cons_zero, List.set_cons_succ, List.getElem?_cons_zero, List.getElem?_cons_succ] at kx_0 kx_1 kx_2; have lt_kx := kx.lt
  clear h0 h1 h2
  have HS : Hid (∀ w' : World, Below (w1.heap.size) w1 w' → (w'.cell? ⟨g, 0, none⟩ = some (.int .i64 b) ∧ w'.cell? ⟨g, 1, none⟩ = some (.int .i64 r) ∧ w'.cell? ⟨h, 0, none⟩ = some (.int .i64 now) ∧ w'.cell? ⟨w.heap.size, 1, none⟩ = some (.int .i64 x.t) ∧ w'.cell? ⟨w.heap.size, 2, none⟩ = some (.int .i64 x.a)) ∧ w1.heap.size ≤ w'.heap.size ∧ Below (w1.heap.size) w1 w') := fun w' hB => ⟨⟨(hB.cell (p := ⟨g, 0, none⟩) (by dsimp only; omega)).trans (h0'), (hB.cell (p := ⟨g, 1, none⟩) (by dsimp only; omega)).trans (h1'), (hB.cell (p := ⟨h, 0, none⟩) (by dsimp only; omega)).trans (h2'), (hB.cell (p := ⟨w.heap.size, 1, none⟩) (by dsimp only; omega)).trans (kx_1), (hB.cell (p := ⟨w.heap.size, 2, none⟩) (by dsimp only; omega)).trans (kx_2)⟩, hB.size, hB⟩; go_region_held3 (fun w' => (w'.cell? ⟨g, 0, none⟩ = some (.int .i64 b) ∧ w'.cell? ⟨g, 1, none⟩ = some (.int .i64 r) ∧ w'.cell? ⟨h, 0, none⟩ = some (.int .i64 now) ∧ w'.cell? ⟨w.heap.size, 1, none⟩ = some (.int .i64 x.t) ∧ w'.cell? ⟨w.heap.size, 2, none⟩ = some (.int .i64 x.a)) ∧ w1.heap.size ≤ w'.heap.size ∧ Below (w1.heap.size) w1 w') ((go_split_ands; exact HS.out _ (by (repeat (first | with_reducible exact Below.refl _ _ | with_reducible assumption | with_reducible refine Below.drew ?_ | with_reducible refine Below.drewN ?_ _ | with_reducible refine Below.alloc ?_ (by first | omega | (simp; done) | (simp; omega)) _ | with_reducible refine Below.setCell ?_ (by first | omega | (simp; done) | (simp; omega)) _ | with_reducible refine Below.then_ ?_ (by with_reducible assumption) (by first | omega | (simp; done) | (simp; omega))))))) ((go_at_call 47; refine (hL _).mono ?_; rintro e w5 ⟨rfl, hy5⟩; obtain ⟨hc_hy5, hf_hy5⟩ := bcell hy5; have hz_hy5 := hy5.size; (try simp at hz_hy5); (try have lt_w5_w1_0 : w1.heap.size < w5.heap.size := by omega); (try have lt_w5_w1_1 : w1.heap.size + 1 < w5.heap.size := by omega); (try have lt_w5_w1_2 : w1.heap.size + 1 + 1 < w5.heap.size := by omega)))
  all_goals
    go_wp2
    go_ret
    exact ⟨ret_bool HE.out.symm, by (repeat (first | with_reducible exact Below.refl _ _ | with_reducible assumption | with_reducible refine Below.drew ?_ | with_reducible refine Below.drewN ?_ _ | with_reducible refine Below.alloc1 ?_ _ | with_reducible refine Below.setCell1 ?_ (by first | omega | (simp; done) | (simp; omega)) _ | with_reducible refine Below.step ?_ (by with_reducible assumption)))⟩
set_option maxRecDepth 100000 in
set_option maxHeartbeats 4000000 in
theorem source_Clean_any (A : Option Addr) (c : Nat) (b r : Int) (l : List En) (now : Int) (w : World) (hl : l.length ≤ 1000) (ha : Rd w w.heap.size A (enR l)) :
    Calls Try.prog 33 #[.agg #[.int .i64 b, .int .i64 r], .slice A l.length c, .int .i64 now] w fun e w' => ∃ B d, e = .returned (.slice B (eClean b r l now).length d) ∧ w'.ownsRow w.heap.size 146 3 (.slice B (eClean b r l now).length d) (eClean b r l now).length (enR (eClean b r l now)) ∧ Below w.heap.size w w' := by
  have eg : ∀ args w, (callFunc 79 args).run Try.prog w = .ok (.enter 79 args) w := enters_of Try.func79 (by kernel_rfl) rfl
  have hC := fun (W : World) (h : Below w.heap.size w W) => source_Check_any A c b r l W hl ((ha.below h).more h.size)
  have hK := fun (W : World) (h : Below w.heap.size w W) => en_Clone A c l W hl ((ha.below h).more h.size)
  go_enter Try.func33, Try.ntmps33
  go_wp2_with fail
  generalize hV : World.alloc (World.alloc w _) _ = w1
  have hb1 : Below w.heap.size w w1 := by subst hV; (repeat (first | with_reducible exact Below.refl _ _ | with_reducible assumption | with_reducible refine Below.drew ?_ | with_reducible refine Below.drewN ?_ _ | with_reducible refine Below.alloc1 ?_ _ | with_reducible refine Below.setCell1 ?_ (by first | omega | (simp; done) | (simp; omega)) _ | with_reducible refine Below.step ?_ (by with_reducible assumption)))
  have k0 : Bk w1 w.heap.size 40 [.int .i64 b, .int .i64 r] := by subst hV; (repeat (first | with_reducible exact Bk.new' _ _ _ _ (by simp; done) | with_reducible assumption | with_reducible refine Bk.alloc ?_ _ | with_reducible refine Bk.drew ?_ | with_reducible refine Bk.drewN ?_ _ | with_reducible refine Bk.step ?_ (by with_reducible assumption) | with_reducible refine Bk.far ?_ (by first | omega | (simp; done) | (simp; omega)) _))
  have k1 : Bk w1 (w.heap.size + 1) 3 [.int .i64 now] := by subst hV; (repeat (first | with_reducible exact Bk.new' _ _ _ _ (by simp; done) | with_reducible assumption | with_reducible refine Bk.alloc ?_ _ | with_reducible refine Bk.drew ?_ | with_reducible refine Bk.drewN ?_ _ | with_reducible refine Bk.step ?_ (by with_reducible assumption) | with_reducible refine Bk.far ?_ (by first | omega | (simp; done) | (simp; omega)) _))
  have hw1 : w1.heap.size = w.heap.size + 2 := by subst hV; simp
  clear hV
  refine (hK _ hb1).mono ?_; rintro e x0 ⟨B, d, rfl, own, hx0⟩
  have hlo : ∀ W, Below w1.heap.size x0 W → Bk W w.heap.size 40 [.int .i64 b, .int .i64 r] ∧ Bk W (w.heap.size + 1) 3 [.int .i64 now] := fun W h => ⟨(k0.step hx0).below h (by omega), (k1.step hx0).below h (by omega)⟩
  replace k0 := k0.step hx0; (try clear lt_k0); have lt_k0 := k0.lt; replace k1 := k1.step hx0; (try clear lt_k1); have lt_k1 := k1.lt
  replace hb1 : Below w.heap.size w x0 := hb1.step hx0
  have hz0 := hx0.size
  clear hx0 hK
  have k0_0 := k0.cell 0; have k0_f0 := k0.frozen 0; have k0_1 := k0.cell 1; have k0_f1 := k0.frozen 1; simp only [List.set_cons_zero, List.set_cons_succ, List.getElem?_cons_zero, List.getElem?_cons_succ] at k0_0 k0_1; have lt_k0 := k0.lt; have k1_0 := k1.cell 0; have k1_f0 := k1.frozen 0; simp only [List.set_cons_zero, List.set_cons_succ, List.getElem?_cons_zero, List.getElem?_cons_succ] at k1_0; have lt_k1 := k1.lt
  go_wp2_with fail
  refine (hC _ hb1).mono ?_; rintro e x1 ⟨rfl, hx1⟩
  replace own := own_below own hx1 (Nat.le_refl _)
  have hlo1 : ∀ W, Below w1.heap.size x1 W → Bk W w.heap.size 40 [.int .i64 b, .int .i64 r] ∧ Bk W (w.heap.size + 1) 3 [.int .i64 now] := fun W h => hlo W ((hx1.mono hz0).trans h)
  replace k0 := k0.step hx1; (try clear k0_0 k0_f0 k0_1 k0_f1); have k0_0 := k0.cell 0; have k0_f0 := k0.frozen 0; have k0_1 := k0.cell 1; have k0_f1 := k0.frozen 1; simp only [List.set_cons_zero, List.set_cons_succ, List.getElem?_cons_zero, List.getElem?_cons_succ] at k0_0 k0_1; (try clear lt_k0); have lt_k0 := k0.lt; replace k1 := k1.step hx1; (try clear k1_0 k1_f0); have k1_0 := k1.cell 0; have k1_f0 := k1.frozen 0; simp only [List.set_cons_zero, List.set_cons_succ, List.getElem?_cons_zero, List.getElem?_cons_succ] at k1_0; (try clear lt_k1); have lt_k1 := k1.lt
  replace hb1 : Below w.heap.size w x1 := hb1.step hx1
  have hz1 := hx1.size
  clear hx1 hC hlo
  by_cases he : eCheck b r l = 0
  · have hCl : eClean b r l now = l.filter fun x => !eFull b r now x := by unfold eClean; rw [if_neg (by simp [he])]
    have hne : (eCheck b r l != 0) = false := by rw [he]; rfl
    have hD := en_DeleteFunc 79 #[.pointer (some ⟨w.heap.size, 0, none⟩), .pointer (some ⟨w.heap.size + 1, 0, none⟩)] (eFull b r now) w1.heap.size x1 eg (fun x W h => by
      obtain ⟨j0, j1⟩ := hlo1 W h
      exact source_Clean1_any x b r now w.heap.size (w.heap.size + 1) W j0.lt j1.lt (j0.cell 0) (j0.cell 1) (j1.cell 0)) B d l hl (by omega) own
    rw [← hCl] at hD
    rw [he]
    have hmo : w.heap.size ≤ w1.heap.size := by omega
    clear hlo1 eg he hCl
    go_wp2_with fail
    refine hD.mono ?_; rintro e x2 ⟨rfl, own2, hx2⟩
    go_wp2
    go_ret
    exact ⟨B, d, rfl, own_base14 own2 hmo, hb1.trans (hx2.mono hmo)⟩
  · have hCl : eClean b r l now = l := by unfold eClean; rw [if_pos he]
    have hne : (eCheck b r l != 0) = true := by simpa using he
    have HCL := hide hCl
    clear hlo1 eg hCl
    generalize eCheck b r l = e0 at *
    go_wp2
    go_ret
    rw [HCL.out]
    exact ⟨B, d, rfl, own_base14 own (by omega), hb1⟩
end Go.Proofs.Ytolpiaehleefbaa
