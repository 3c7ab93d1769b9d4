/- Package source: find, of, Level, Wait. -/
import Derived.Test.YtolpiaehleefbaaSrc5
namespace Go.Proofs.Ytolpiaehleefbaa
open Go.RowKit Go.Sort
set_option linter.unusedSimpArgs false
set_option linter.unusedVariables false

/-- entries that may be -/
def EOk (l : List En) : Prop := l.length ≤ 1000 ∧ (∀ x ∈ l, 0 ≤ x.s ∧ x.s ≤ 65535) ∧ eOrd l = true
theorem sMay_t {n : Int} (h : sMay n = true) : 0 ≤ n ∧ n ≤ 65535 := by simpa [sMay] using h
theorem EOk.of {b r : Int} {l : List En} (h : eCheck b r l = 0) : EOk l := by
  obtain ⟨_, h2, h3, h4⟩ := eCheck_ok h
  exact ⟨by omega, fun x hx => sMay_t (h3 x hx).1, h4⟩
theorem source_find_any (A : Option Addr) (c : Nat) (l : List En) (s : Int) (w : World) (hl : EOk l) (hs : 0 ≤ s ∧ s ≤ 65535) (ha : Rd w w.heap.size A (enR l)) :
    Calls Try.prog 75 #[.slice A l.length c, .int .i64 s] w fun e w' => e = .returned (.tuple #[.int .i64 (lowB l s), .bool (hasB l s)]) ∧ Below w.heap.size w w' := by
  have eg : ∀ args w, (callFunc 102 args).run Try.prog w = .ok (.enter 102 args) w := enters_of Try.func102 (by kernel_rfl) rfl
  have hB := en_BinarySearchFunc 102 s A c l w eg hl.1 hs hl.2.1 hl.2.2 (fun x W hx => source_find1_any x s (hl.2.1 x hx) hs W) ha
  generalize lowB l s = k at *
  generalize hasB l s = q at *
  clear eg hl
  go_enter Try.func75, Try.ntmps75
  go_wp2_with fail
  refine hB.mono ?_; rintro e x0 ⟨rfl, hx0⟩
  go_wp2
  exact bodyPost_ret (v := .tuple #[.int .i64 k, .bool q]) (by simp only [results, Try.results75]; go_simp) rfl ⟨rfl, hx0⟩
def eOf (b : Int) (l : List En) (s now : Int) : Int × Int := if hasB l s = true then ((l.getD (lowB l s) ⟨0, 0, 0⟩).t, (l.getD (lowB l s) ⟨0, 0, 0⟩).a) else (b, bHeld now 0 1099511627776)
theorem hasB_lt {l : List En} {s : Int} (h : hasB l s = true) : lowB l s < l.length := by
  rcases Nat.lt_or_ge (lowB l s) l.length with h1 | h1
  · exact h1
  · rw [hasB_end h1] at h; cases h
set_option maxRecDepth 100000 in
set_option maxHeartbeats 4000000 in
theorem source_of_any (A : Option Addr) (c : Nat) (b r : Int) (l : List En) (s now : Int) (w : World) (hl : EOk l) (hs : 0 ≤ s ∧ s ≤ 65535) (ha : Rd w w.heap.size A (enR l)) :
    Calls Try.prog 76 #[.slice A l.length c, .agg #[.int .i64 b, .int .i64 r], .int .i64 s, .int .i64 now] w fun e w' => e = .returned (stV (eOf b l s now)) ∧ Below w.heap.size w w' := by
  have hF := fun (W : World) (h : Below w.heap.size w W) => source_find_any A c l s W hl hs ((ha.below h).more h.size)
  have hU := fun W => bucket_Full_any b r now W
  cases hh : hasB l s with
  | true =>
    have hlt := hasB_lt hh
    have hO : eOf b l s now = (l[lowB l s].t, l[lowB l s].a) := by
      unfold eOf; rw [if_pos hh, List.getD_eq_getElem?_getD, List.getElem?_eq_getElem hlt]; rfl
    have HO := hide hO
    rw [hh] at hF
    obtain ⟨k, hk⟩ : ∃ k, k = lowB l s := ⟨_, rfl⟩
    simp only [← hk] at HO hF hlt
    obtain ⟨ad, rfl, hadb, c1, c2, c3⟩ := ha.en hlt
    have hkl : (k : Int) < (l.length : Int) := by omega
    clear hO hh hl
    generalize l[k] = x at *
    clear hk hlt
    go_enter Try.func76, Try.ntmps76
    go_wp2_with fail
    generalize hV : World.alloc (World.alloc w _) _ = w1
    have hb1 : Below w.heap.size w w1 := by subst hV; (repeat (first | with_reducible exact Below.refl _ _ | with_reducible assumption | with_reducible refine Below.drew ?_ | with_reducible refine Below.drewN ?_ _ | with_reducible refine Below.alloc1 ?_ _ | with_reducible refine Below.setCell1 ?_ (by first | omega | (simp; done) | (simp; omega)) _ | with_reducible refine Below.step ?_ (by with_reducible assumption)))
    have k0 : Bk w1 (w.heap.size + 1) 46 [.int .i64 0, .int .i64 0] := by subst hV; (repeat (first | with_reducible exact Bk.new' _ _ _ _ (by simp; done) | with_reducible assumption | with_reducible refine Bk.alloc ?_ _ | with_reducible refine Bk.drew ?_ | with_reducible refine Bk.drewN ?_ _ | with_reducible refine Bk.step ?_ (by with_reducible assumption) | with_reducible refine Bk.far ?_ (by first | omega | (simp; done) | (simp; omega)) _))
    clear hV
    refine (hF _ hb1).mono ?_; rintro e x0 ⟨rfl, hx0⟩
    replace k0 := k0.step hx0; (try clear k0_0 k0_f0 k0_1 k0_f1); have k0_0 := k0.cell 0; have k0_f0 := k0.frozen 0; have k0_1 := k0.cell 1; have k0_f1 := k0.frozen 1; simp only [List.set_cons_zero, List.set_cons_succ, List.getElem?_cons_zero, List.getElem?_cons_succ] at k0_0 k0_1; (try clear lt_k0); have lt_k0 := k0.lt
    replace hb1 : Below w.heap.size w x0 := hb1.step hx0
    have c2' := (hb1.cell (p := ⟨(ad.add (k * 3)).block, (ad.add (k * 3)).off + 1, none⟩) (by dsimp only; rw [add_block]; exact hadb)).trans c2
    have c3' := (hb1.cell (p := ⟨(ad.add (k * 3)).block, (ad.add (k * 3)).off + 2, none⟩) (by dsimp only; rw [add_block]; exact hadb)).trans c3
    clear hx0 hF hU c1 c2 c3
    go_wp2
    exact bodyPost_ret (v := stV (x.t, x.a)) (by simp only [results, Try.results76, stV]; go_simp) rfl ⟨by rw [HO.out], by (repeat (first | with_reducible exact Below.refl _ _ | with_reducible assumption | with_reducible refine Below.drew ?_ | with_reducible refine Below.drewN ?_ _ | with_reducible refine Below.alloc1 ?_ _ | with_reducible refine Below.setCell1 ?_ (by first | omega | (simp; done) | (simp; omega)) _ | with_reducible refine Below.step ?_ (by with_reducible assumption)))⟩
  | false =>
    have hO : eOf b l s now = (b, bHeld now 0 1099511627776) := by unfold eOf; rw [hh]; rfl
    have HO := hide hO
    rw [hh] at hF
    generalize bHeld now 0 1099511627776 = q at *
    generalize lowB l s = k at *
    clear hO hh hl
    go_enter Try.func76, Try.ntmps76
    go_wp2_with fail
    generalize hV : World.alloc (World.alloc w _) _ = w1
    have hb1 : Below w.heap.size w w1 := by subst hV; (repeat (first | with_reducible exact Below.refl _ _ | with_reducible assumption | with_reducible refine Below.drew ?_ | with_reducible refine Below.drewN ?_ _ | with_reducible refine Below.alloc1 ?_ _ | with_reducible refine Below.setCell1 ?_ (by first | omega | (simp; done) | (simp; omega)) _ | with_reducible refine Below.step ?_ (by with_reducible assumption)))
    have kb : Bk w1 w.heap.size 40 [.int .i64 b, .int .i64 r] := by subst hV; (repeat (first | with_reducible exact Bk.new' _ _ _ _ (by simp; done) | with_reducible assumption | with_reducible refine Bk.alloc ?_ _ | with_reducible refine Bk.drew ?_ | with_reducible refine Bk.drewN ?_ _ | with_reducible refine Bk.step ?_ (by with_reducible assumption) | with_reducible refine Bk.far ?_ (by first | omega | (simp; done) | (simp; omega)) _))
    have k0 : Bk w1 (w.heap.size + 1) 46 [.int .i64 0, .int .i64 0] := by subst hV; (repeat (first | with_reducible exact Bk.new' _ _ _ _ (by simp; done) | with_reducible assumption | with_reducible refine Bk.alloc ?_ _ | with_reducible refine Bk.drew ?_ | with_reducible refine Bk.drewN ?_ _ | with_reducible refine Bk.step ?_ (by with_reducible assumption) | with_reducible refine Bk.far ?_ (by first | omega | (simp; done) | (simp; omega)) _))
    clear hV
    refine (hF _ hb1).mono ?_; rintro e x0 ⟨rfl, hx0⟩
    replace kb := kb.step hx0; (try clear kb_0 kb_f0 kb_1 kb_f1); have kb_0 := kb.cell 0; have kb_f0 := kb.frozen 0; have kb_1 := kb.cell 1; have kb_f1 := kb.frozen 1; simp only [List.set_cons_zero, List.set_cons_succ, List.getElem?_cons_zero, List.getElem?_cons_succ] at kb_0 kb_1; (try clear lt_kb); have lt_kb := kb.lt; replace k0 := k0.step hx0; (try clear k0_0 k0_f0 k0_1 k0_f1); have k0_0 := k0.cell 0; have k0_f0 := k0.frozen 0; have k0_1 := k0.cell 1; have k0_f1 := k0.frozen 1; simp only [List.set_cons_zero, List.set_cons_succ, List.getElem?_cons_zero, List.getElem?_cons_succ] at k0_0 k0_1; (try clear lt_k0); have lt_k0 := k0.lt
    replace hb1 : Below w.heap.size w x0 := hb1.step hx0
    clear hx0 hF
    go_wp2_with fail
    refine (hU _).mono ?_; rintro e x1 ⟨rfl, hx1⟩
    replace kb := kb.step hx1; (try clear kb_0 kb_f0 kb_1 kb_f1); have kb_0 := kb.cell 0; have kb_f0 := kb.frozen 0; have kb_1 := kb.cell 1; have kb_f1 := kb.frozen 1; simp only [List.set_cons_zero, List.set_cons_succ, List.getElem?_cons_zero, List.getElem?_cons_succ] at kb_0 kb_1; (try clear lt_kb); have lt_kb := kb.lt; replace k0 := k0.step hx1; (try clear k0_0 k0_f0 k0_1 k0_f1); have k0_0 := k0.cell 0; have k0_f0 := k0.frozen 0; have k0_1 := k0.cell 1; have k0_f1 := k0.frozen 1; simp only [List.set_cons_zero, List.set_cons_succ, List.getElem?_cons_zero, List.getElem?_cons_succ] at k0_0 k0_1; (try clear lt_k0); have lt_k0 := k0.lt
    replace hb1 : Below w.heap.size w x1 := hb1.step hx1
    clear hx1 hU
    unfold stV
    go_wp2
    exact bodyPost_ret (v := stV (b, q)) (by simp only [results, Try.results76, stV]; go_simp) rfl ⟨by rw [HO.out], by (repeat (first | with_reducible exact Below.refl _ _ | with_reducible assumption | with_reducible refine Below.drew ?_ | with_reducible refine Below.drewN ?_ _ | with_reducible refine Below.alloc1 ?_ _ | with_reducible refine Below.setCell1 ?_ (by first | omega | (simp; done) | (simp; omega)) _ | with_reducible refine Below.step ?_ (by with_reducible assumption)))⟩
def eLevel (b r : Int) (l : List En) (s now : Int) : Int := if sMay s = false then 0 else if eCheck b r l ≠ 0 then 0 else bLevel b r (eOf b l s now).1 (eOf b l s now).2 now
def eWait (b r : Int) (l : List En) (s now : Int) : Int := if sMay s = false then -1 else if eCheck b r l ≠ 0 then -1 else bWait b r (eOf b l s now).1 (eOf b l s now).2 now 1
end Go.Proofs.Ytolpiaehleefbaa
