/- Package pool: Handles, Used, New, Same. -/
import Derived.Test.YtnmpighdkdffbaaPool5
namespace Go.Proofs.Ytnmpighdkdffbaa
open Go.RowKit Go.Sort
set_option linter.unusedSimpArgs false
set_option linter.unusedVariables false

def pHand : List Cl → Nat → List Int
  | [], _ => []
  | x :: l, k => (if x.live then [x.gen * 64 + k] else []) ++ pHand l (k + 1)
theorem pHand_append (a b : List Cl) (k : Nat) : pHand (a ++ b) k = pHand a k ++ pHand b (k + a.length) := by
  induction a generalizing k with
  | nil => rfl
  | cons x a ih => simp only [List.cons_append, pHand, ih, List.length_cons, List.append_assoc, show k + 1 + a.length = k + (a.length + 1) by omega]
theorem pHand_snoc (l : List Cl) (k : Nat) (h : k < l.length) : pHand (l.take (k + 1)) 0 = pHand (l.take k) 0 ++ (if l[k].live then [l[k].gen * 64 + k] else []) := by
  rw [take_snocL l k h, pHand_append, List.length_take, Nat.min_eq_left (by omega)]
  simp [pHand]
theorem pHand_len (l : List Cl) (k : Nat) : (pHand l k).length ≤ l.length := by
  induction l generalizing k with
  | nil => simp [pHand]
  | cons x l ih => have := ih (k + 1); simp only [pHand, List.length_append, List.length_cons]; split <;> simp <;> omega
def pHandles (l : List Cl) (f : List Int) : List Int := if pCheck l f ≠ 0 then [] else pHand l 0

set_option maxHeartbeats 4000000 in
theorem pool_Handles_any (V : Value) (l : List Cl) (f : List Int) (w : World) (hl : l.length ≤ 1000) (hf : f.length ≤ 1000) (hV : StAt w V l f) :
    Calls Try.prog 27 #[V] w fun e w' => ∃ B d, e = .returned (.slice B (pHandles l f).length d) ∧ w'.ownsRow w.heap.size 3 1 (.slice B (pHandles l f).length d) (pHandles l f).length (ints (pHandles l f)) ∧ Below w.heap.size w w' := by
  obtain ⟨A, c, B, d, rfl, hd, ha, hb⟩ := hV
  obtain ⟨iT, hi, hz0, hz1, hz2⟩ := info_parts pint_info
  have hC := fun (W : World) (h' : Below w.heap.size w W) => pool_Check_any A B c d l f W hl hf hd ((ha.below h').more h'.size) ((hb.below h').more h'.size)
  by_cases he : pCheck l f = 0
  · obtain ⟨⟨hl0, hl64⟩, hgen, -, -⟩ := check_ok he
    have hr : pHandles l f = pHand l 0 := by unfold pHandles; rw [if_neg (by simpa using he)]
    rw [he] at hC
    have HG := hide hgen
    have HR := hide hr
    clear he hgen hr
    go_enter Try.func27, Try.ntmps27
    go_wp2_with fail
    generalize hV : World.alloc w _ = w1
    have hb1 : Below w.heap.size w w1 := by subst hV; (repeat (first | with_reducible exact Below.refl _ _ | with_reducible assumption | with_reducible refine Below.drew ?_ | with_reducible refine Below.drewN ?_ _ | with_reducible refine Below.alloc1 ?_ _ | with_reducible refine Below.setCell1 ?_ (by first | omega | (simp; done) | (simp; omega)) _ | with_reducible refine Below.step ?_ (by with_reducible assumption)))
    have k0 : Bk w1 w.heap.size 30 (stC A l.length c B f.length d) := by subst hV; (repeat (first | with_reducible exact Bk.new' _ _ _ _ (by simp; done) | with_reducible assumption | with_reducible refine Bk.alloc ?_ _ | with_reducible refine Bk.drew ?_ | with_reducible refine Bk.drewN ?_ _ | with_reducible refine Bk.step ?_ (by with_reducible assumption) | with_reducible refine Bk.far ?_ (by first | omega | (simp; done) | (simp; omega)) _))
    clear hV
    refine (hC _ hb1).mono ?_; rintro e x0 ⟨rfl, hx0⟩
    replace k0 := k0.step hx0
    replace hb1 : Below w.heap.size w x0 := by (repeat (first | with_reducible exact Below.refl _ _ | with_reducible assumption | with_reducible refine Below.drew ?_ | with_reducible refine Below.drewN ?_ _ | with_reducible refine Below.alloc1 ?_ _ | with_reducible refine Below.setCell1 ?_ (by first | omega | (simp; done) | (simp; omega)) _ | with_reducible refine Below.step ?_ (by with_reducible assumption)))
    clear hx0 hC
    have k0_0 := k0.cell 0; have k0_f0 := k0.frozen 0; have k0_1 := k0.cell 1; have k0_f1 := k0.frozen 1; simp only [List.set_cons_zero, List.set_cons_succ, List.getElem?_cons_zero, List.getElem?_cons_succ] at k0_0 k0_1; have lt_k0 := k0.lt
    go_wp2
    (try clear k0_0 k0_f0 k0_1 k0_f1 lt_k0)
    go_loopw [3, 12] (fun o i wr => ∃ (k : Nat) (A' : Option Addr) (c' : Nat), k ≤ l.length ∧ i = .int .i64 k ∧ o = .slice A' (pHand (l.take k) 0).length c' ∧ wr.ownsRow (w.heap.size + 1) 3 1 (.slice A' (pHand (l.take k) 0).length c') (pHand (l.take k) 0).length (ints (pHand (l.take k) 0)) ∧ Bk wr w.heap.size 30 (stC A l.length c B f.length d) ∧ Below w.heap.size w wr) (fun _ i _ => l.length - (intOf i).toNat)
    case atStart => exact ⟨0, none, 0, Nat.zero_le _, rfl, rfl, ⟨rfl, .inl ⟨rfl, rfl⟩⟩, k0, hb1⟩
    case round =>
      obtain ⟨k, A', c', hk, rfl, rfl, own, j0, hbr⟩ := hrel
      clear k0 hb1
      by_cases hlt : k < l.length
      · obtain ⟨ad, rfl, hadb, c1, c2, c3⟩ := (ha.below hbr).cl hlt
        have HS := hide (pHand_snoc l k hlt)
        have hgk := HG.out _ (List.getElem_mem hlt)
        have hlen : (pHand (l.take k) 0).length ≤ k := by have := pHand_len (l.take k) 0; rw [List.length_take] at this; omega
        have hlt0 := j0.lt
        have hH := fun (W : World) (h' : Below w.heap.size w W) => pool_handle_any (some ad) B c d l f.length k W hl hlt hgk ((ha.below h').more h'.size)
        generalize pHand (l.take k) 0 = hs at *
        generalize l[k] = x at *
        obtain ⟨g, lv, v⟩ := x
        simp only at c1 c2 c3 hgk hH
        cases lv with
        | false =>
          have hsn := HS.out
          simp only [Bool.false_eq_true, if_false, List.append_nil] at hsn
          replace HS := hide hsn
          clear hsn hH
          go_wp2
          go_roundw
          case rel =>
            refine ⟨k + 1, A', c', by omega, by go_num, ?_⟩
            rw [HS.out]
            exact ⟨rfl, own.alloc _, j0.alloc _, by (repeat (first | with_reducible exact Below.refl _ _ | with_reducible assumption | with_reducible refine Below.drew ?_ | with_reducible refine Below.drewN ?_ _ | with_reducible refine Below.alloc1 ?_ _ | with_reducible refine Below.setCell1 ?_ (by first | omega | (simp; done) | (simp; omega)) _ | with_reducible refine Below.step ?_ (by with_reducible assumption)))⟩
          case measure => simp [intOf]; omega
        | true =>
          have hsn := HS.out
          simp only [if_true] at hsn
          replace HS := hide hsn
          clear hsn
          have j0_0 := j0.cell 0; have j0_f0 := j0.frozen 0; have j0_1 := j0.cell 1; have j0_f1 := j0.frozen 1; simp only [List.set_cons_zero, List.set_cons_succ, List.getElem?_cons_zero, List.getElem?_cons_succ] at j0_0 j0_1; have lt_j0 := j0.lt
          go_wp2_with fail
          generalize hV : World.alloc wr _ = w2
          have hbs : Below w.heap.size w w2 := by subst hV; (repeat (first | with_reducible exact Below.refl _ _ | with_reducible assumption | with_reducible refine Below.drew ?_ | with_reducible refine Below.drewN ?_ _ | with_reducible refine Below.alloc1 ?_ _ | with_reducible refine Below.setCell1 ?_ (by first | omega | (simp; done) | (simp; omega)) _ | with_reducible refine Below.step ?_ (by with_reducible assumption)))
          replace j0 : Bk w2 w.heap.size 30 (stC (some ad) l.length c B f.length d) := by subst hV; (repeat (first | with_reducible exact Bk.new' _ _ _ _ (by simp; done) | with_reducible assumption | with_reducible refine Bk.alloc ?_ _ | with_reducible refine Bk.drew ?_ | with_reducible refine Bk.drewN ?_ _ | with_reducible refine Bk.step ?_ (by with_reducible assumption) | with_reducible refine Bk.far ?_ (by first | omega | (simp; done) | (simp; omega)) _))
          replace own : w2.ownsRow (w.heap.size + 1) 3 1 (.slice A' hs.length c') hs.length (ints hs) := by subst hV; exact own.alloc _
          have hsz2 : wr.heap.size < w2.heap.size := by subst hV; simp
          (try clear j0_0 j0_f0 j0_1 j0_f1 lt_j0)
          clear hV
          refine (hH _ hbs).mono ?_; rintro e x3 ⟨rfl, hx3⟩
          replace j0 := j0.step hx3
          replace own := own_below own hx3 (Nat.le_refl _)
          replace hbs : Below w.heap.size w x3 := by (repeat (first | with_reducible exact Below.refl _ _ | with_reducible assumption | with_reducible refine Below.drew ?_ | with_reducible refine Below.drewN ?_ _ | with_reducible refine Below.alloc1 ?_ _ | with_reducible refine Below.setCell1 ?_ (by first | omega | (simp; done) | (simp; omega)) _ | with_reducible refine Below.step ?_ (by with_reducible assumption)))
          have hsz3 := hx3.size
          clear hx3 hH
          go_wp2_with (at_builtin; refine wpList_app2 rfl (.tmp 19) (.tmp 23) 23 rfl (w.heap.size + 1) 3 iT _ 1 8 Try.underlying23 hi hz0 hz1 hz2 rfl (by omega) A' hs.length c' (ints hs) rfl (own.alloc _) ⟨x3.heap.size, 0, none⟩ 1 1 [.int .i64 (g * 64 + k)] rfl rfl (news_at (cs := [_])) (by simp [Value.oneCell']) (by unfold maxLen; omega) (by omega) (by simp; omega) (by omega) ?_; intro g2 cap w7 own7 hb7 hgr7)
          have j7 := (j0.alloc (.cells #[.int .i64 (g * 64 + k)] 3)).below hb7 (by omega)
          have hb8 : Below w.heap.size w w7 := (hbs.alloc1 _).trans (hb7.mono (by omega))
          go_roundw
          case rel =>
            refine ⟨k + 1, some ⟨g2, 0, none⟩, cap, by omega, by go_num, ?_⟩
            rw [HS.out]
            have hlen7 : (hs ++ [g * 64 + (k : Int)]).length = hs.length + 1 := by simp
            have hints : ints (hs ++ [g * 64 + (k : Int)]) = ints hs ++ [.int .i64 (g * 64 + k)] := by simp [ints]
            rw [hlen7, hints]
            exact ⟨rfl, own7, j7, hb8⟩
          case measure => simp [intOf]; omega
      · have hkl : k = l.length := by omega
        subst hkl
        rw [List.take_length] at own ⊢
        have h := HR.out
        go_wp2
        go_ret
        rw [h]
        exact ⟨A', c', rfl, own_mono own (by omega), by (repeat (first | with_reducible exact Below.refl _ _ | with_reducible assumption | with_reducible refine Below.drew ?_ | with_reducible refine Below.drewN ?_ _ | with_reducible refine Below.alloc1 ?_ _ | with_reducible refine Below.setCell1 ?_ (by first | omega | (simp; done) | (simp; omega)) _ | with_reducible refine Below.step ?_ (by with_reducible assumption)))⟩
  · have hr : pHandles l f = [] := by unfold pHandles; rw [if_pos he]
    have hne : (pCheck l f != 0) = true := by simpa using he
    generalize pCheck l f = ec at *
    clear he
    go_enter Try.func27, Try.ntmps27
    go_wp2_with fail
    generalize hV : World.alloc w _ = w1
    have hb1 : Below w.heap.size w w1 := by subst hV; (repeat (first | with_reducible exact Below.refl _ _ | with_reducible assumption | with_reducible refine Below.drew ?_ | with_reducible refine Below.drewN ?_ _ | with_reducible refine Below.alloc1 ?_ _ | with_reducible refine Below.setCell1 ?_ (by first | omega | (simp; done) | (simp; omega)) _ | with_reducible refine Below.step ?_ (by with_reducible assumption)))
    clear hV
    refine (hC _ hb1).mono ?_; rintro e x0 ⟨rfl, hx0⟩
    go_wp2
    go_ret
    rw [hr]
    exact ⟨none, 0, rfl, ⟨rfl, .inl ⟨rfl, rfl⟩⟩, by (repeat (first | with_reducible exact Below.refl _ _ | with_reducible assumption | with_reducible refine Below.drew ?_ | with_reducible refine Below.drewN ?_ _ | with_reducible refine Below.alloc1 ?_ _ | with_reducible refine Below.setCell1 ?_ (by first | omega | (simp; done) | (simp; omega)) _ | with_reducible refine Below.step ?_ (by with_reducible assumption)))⟩
theorem pool_Used_any (V : Value) (l : List Cl) (f : List Int) (w : World) (hl : l.length ≤ 1000) (hf : f.length ≤ 1000) (hV : StAt w V l f) :
    Calls Try.prog 24 #[V] w fun e w' => e = .returned (.int .i64 (pHandles l f).length) ∧ Below w.heap.size w w' := by
  have hC := fun (W : World) (h' : Below w.heap.size w W) => pool_Handles_any V l f W hl hf (hV.step h')
  obtain ⟨A, c, B, d, rfl, hd, ha, hb⟩ := hV
  go_enter Try.func24, Try.ntmps24
  go_wp2_with fail
  generalize hV : World.alloc w _ = w1
  have hb1 : Below w.heap.size w w1 := by subst hV; (repeat (first | with_reducible exact Below.refl _ _ | with_reducible assumption | with_reducible refine Below.drew ?_ | with_reducible refine Below.drewN ?_ _ | with_reducible refine Below.alloc1 ?_ _ | with_reducible refine Below.setCell1 ?_ (by first | omega | (simp; done) | (simp; omega)) _ | with_reducible refine Below.step ?_ (by with_reducible assumption)))
  clear hV
  refine (hC _ hb1).mono ?_; rintro e x0 ⟨B', d', rfl, _, hx0⟩
  go_wp2
  go_ret
  exact ⟨rfl, by (repeat (first | with_reducible exact Below.refl _ _ | with_reducible assumption | with_reducible refine Below.drew ?_ | with_reducible refine Below.drewN ?_ _ | with_reducible refine Below.alloc1 ?_ _ | with_reducible refine Below.setCell1 ?_ (by first | omega | (simp; done) | (simp; omega)) _ | with_reducible refine Below.step ?_ (by with_reducible assumption)))⟩
theorem pool_Same_any (V V' : Value) (l l' : List Cl) (f f' : List Int) (w : World) (hl : l.length ≤ 1000) (hf : f.length ≤ 1000) (hV : StAt w V l f) (hV' : StAt w V' l' f') :
    Calls Try.prog 29 #[V, V'] w fun e w' => e = .returned (.bool (decide (l = l') && decide (f = f'))) ∧ Below w.heap.size w w' := by
  obtain ⟨A, c, B, d, rfl, hd, ha, hb⟩ := hV
  obtain ⟨A', c', B', d', rfl, hd', ha', hb'⟩ := hV'
  have h1 := fun (W : World) (h' : Below w.heap.size w W) => cells_Equal A A' c c' l l' W (by unfold maxLen; omega) ((ha.below h').more h'.size) ((ha'.below h').more h'.size)
  have h2 := fun (W : World) (h' : Below w.heap.size w W) => ints_Equal B B' d d' f f' W (by unfold maxLen; omega) ((hb.below h').more h'.size) ((hb'.below h').more h'.size)
  have hbb : ∀ b b', decide (l = l') = b → decide (f = f') = b' → (decide (l = l') && decide (f = f')) = (b && b') := by rintro b b' rfl rfl; rfl
  generalize decide (l = l') = b1 at *
  generalize decide (f = f') = b2 at *
  clear hbb
  go_enter Try.func29, Try.ntmps29
  go_wp2_with fail
  generalize hV : World.alloc (World.alloc w _) _ = w1
  have hb1 : Below w.heap.size w w1 := by subst hV; (repeat (first | with_reducible exact Below.refl _ _ | with_reducible assumption | with_reducible refine Below.drew ?_ | with_reducible refine Below.drewN ?_ _ | with_reducible refine Below.alloc1 ?_ _ | with_reducible refine Below.setCell1 ?_ (by first | omega | (simp; done) | (simp; omega)) _ | with_reducible refine Below.step ?_ (by with_reducible assumption)))
  have k0 : Bk w1 w.heap.size 30 (stC A l.length c B f.length d) := by subst hV; (repeat (first | with_reducible exact Bk.new' _ _ _ _ (by simp; done) | with_reducible assumption | with_reducible refine Bk.alloc ?_ _ | with_reducible refine Bk.drew ?_ | with_reducible refine Bk.drewN ?_ _ | with_reducible refine Bk.step ?_ (by with_reducible assumption) | with_reducible refine Bk.far ?_ (by first | omega | (simp; done) | (simp; omega)) _))
  have k1 : Bk w1 (w.heap.size + 1) 30 (stC A' l'.length c' B' f'.length d') := by subst hV; (repeat (first | with_reducible exact Bk.new' _ _ _ _ (by simp; done) | with_reducible assumption | with_reducible refine Bk.alloc ?_ _ | with_reducible refine Bk.drew ?_ | with_reducible refine Bk.drewN ?_ _ | with_reducible refine Bk.step ?_ (by with_reducible assumption) | with_reducible refine Bk.far ?_ (by first | omega | (simp; done) | (simp; omega)) _))
  clear hV
  refine (h1 _ hb1).mono ?_; rintro e x0 ⟨rfl, n, rfl⟩
  replace k0 := k0.drewN n
  replace k1 := k1.drewN n
  have k0_0 := k0.cell 0; have k0_f0 := k0.frozen 0; have k0_1 := k0.cell 1; have k0_f1 := k0.frozen 1; simp only [List.set_cons_zero, List.set_cons_succ, List.getElem?_cons_zero, List.getElem?_cons_succ] at k0_0 k0_1; have lt_k0 := k0.lt; have k1_0 := k1.cell 0; have k1_f0 := k1.frozen 0; have k1_1 := k1.cell 1; have k1_f1 := k1.frozen 1; simp only [List.set_cons_zero, List.set_cons_succ, List.getElem?_cons_zero, List.getElem?_cons_succ] at k1_0 k1_1; have lt_k1 := k1.lt
  cases b1 with
  | false =>
    go_wp2
    go_ret
    exact ⟨rfl, by (repeat (first | with_reducible exact Below.refl _ _ | with_reducible assumption | with_reducible refine Below.drew ?_ | with_reducible refine Below.drewN ?_ _ | with_reducible refine Below.alloc1 ?_ _ | with_reducible refine Below.setCell1 ?_ (by first | omega | (simp; done) | (simp; omega)) _ | with_reducible refine Below.step ?_ (by with_reducible assumption)))⟩
  | true =>
    go_wp2_with fail
    refine (h2 _ (hb1.drewN n)).mono ?_; rintro e x0 ⟨rfl, n', rfl⟩
    go_wp2
    go_ret
    exact ⟨rfl, by (repeat (first | with_reducible exact Below.refl _ _ | with_reducible assumption | with_reducible refine Below.drew ?_ | with_reducible refine Below.drewN ?_ _ | with_reducible refine Below.alloc1 ?_ _ | with_reducible refine Below.setCell1 ?_ (by first | omega | (simp; done) | (simp; omega)) _ | with_reducible refine Below.step ?_ (by with_reducible assumption)))⟩

theorem made_cls (n : Nat) : madeCells #[.int .i64 0, .bool false, .int .i64 0] (n * 3) = (cls (List.replicate n ⟨0, false, 0⟩)).toArray := by
  apply Array.ext'
  apply List.ext_getElem?
  intro j
  have hl := cls_length (List.replicate n (⟨0, false, 0⟩ : Cl))
  rw [List.length_replicate] at hl
  by_cases hj : j < n * 3
  · obtain ⟨q, r, hr, rfl⟩ : ∃ q r, r < 3 ∧ j = q * 3 + r := ⟨j / 3, j % 3, by omega, by omega⟩
    obtain ⟨a, b, c⟩ := cls_get (List.replicate n (⟨0, false, 0⟩ : Cl)) q (by rw [List.length_replicate]; omega)
    simp only [List.getElem_replicate] at a b c
    have hm : (q * 3 + r) % 3 = r := by omega
    have h3 : r = 0 ∨ r = 1 ∨ r = 2 := by omega
    rcases h3 with rfl | rfl | rfl
    · simp only [Nat.add_zero] at hj ⊢
      rw [a]; simp [madeCells, hj, Nat.mul_mod_left]
    · rw [b]; simp [madeCells, hj, Nat.add_mod]
    · rw [c]; simp [madeCells, hj, Nat.add_mod]
  · rw [List.getElem?_eq_none (by simp [madeCells]; omega), List.getElem?_eq_none (by simp only []; omega)]
def downs (n k : Nat) : List Int := (List.range k).map fun (i : Nat) => (n : Int) - 1 - (i : Int)
theorem downs_snoc (n k : Nat) : downs n (k + 1) = downs n k ++ [(n : Int) - 1 - k] := by simp [downs, List.range_succ]
theorem downs_len (n k : Nat) : (downs n k).length = k := by simp [downs]
abbrev newL (n : Nat) : List Cl := List.replicate n ⟨0, false, 0⟩

theorem pool_New_no (n : Int) (w : World) (h : n < 1 ∨ 64 < n) : Calls Try.prog 20 #[.int .i64 n] w fun e w' => ∃ V', e = .returned (.tuple #[V', .int .i64 8]) ∧ StFr w.heap.size w' V' [] [] ∧ Below w.heap.size w w' := by
  go_enter Try.func20, Try.ntmps20
  go_wp2_with fail
  all_goals
    generalize hV : World.alloc w _ = w1
    have hb1 : Below w.heap.size w w1 := by subst hV; (repeat (first | with_reducible exact Below.refl _ _ | with_reducible assumption | with_reducible refine Below.drew ?_ | with_reducible refine Below.drewN ?_ _ | with_reducible refine Below.alloc1 ?_ _ | with_reducible refine Below.setCell1 ?_ (by first | omega | (simp; done) | (simp; omega)) _ | with_reducible refine Below.step ?_ (by with_reducible assumption)))
    have k0 : Bk w1 w.heap.size 30 (stC none 0 0 none 0 0) := by subst hV; (repeat (first | with_reducible exact Bk.new' _ _ _ _ (by simp; done) | with_reducible assumption | with_reducible refine Bk.alloc ?_ _ | with_reducible refine Bk.drew ?_ | with_reducible refine Bk.drewN ?_ _ | with_reducible refine Bk.step ?_ (by with_reducible assumption) | with_reducible refine Bk.far ?_ (by first | omega | (simp; done) | (simp; omega)) _))
    clear hV
    have k0_0 := k0.cell 0; have k0_f0 := k0.frozen 0; have k0_1 := k0.cell 1; have k0_f1 := k0.frozen 1; simp only [List.set_cons_zero, List.set_cons_succ, List.getElem?_cons_zero, List.getElem?_cons_succ] at k0_0 k0_1; have lt_k0 := k0.lt
    exact bodyPost_ret (v := .tuple #[stV none 0 0 none 0 0, .int .i64 8]) (by simp only [results, Try.results20]; go_simp) rfl ⟨_, rfl, ⟨none, 0, none, 0, rfl, Nat.le_refl _, Rd.nil, Rd.nil, Fr.none _, Fr.none _⟩, hb1⟩
set_option maxHeartbeats 4000000 in
theorem pool_New_yes (n : Nat) (w : World) (h1 : 1 ≤ n) (h : n ≤ 64) : Calls Try.prog 20 #[.int .i64 n] w fun e w' => ∃ V', e = .returned (.tuple #[V', .int .i64 0]) ∧ StFr w.heap.size w' V' (newL n) (downs n n) ∧ Below w.heap.size w w' := by
  obtain ⟨iT, hi, hz0, hz1, hz2⟩ := info_parts pint_info
  obtain ⟨iC, hiC, hC0, hC1, hC2⟩ := info_parts cell_info
  have hmk : ∀ W : World, (Instr.makeSlice 28 (.int .i64 (n : Int)) (.int .i64 (n : Int))).run Try.prog W = .ok (.slice (some ⟨W.heap.size, 0, none⟩) n n) (W.alloc (.cells (cls (newL n)).toArray 63)) := fun W => by
    have h := run_make (P := Try.prog) W 28 63 iC _ Try.underlying28 hiC hC0 .i64 .i64 n n (by omega) (by omega) (by rw [hC2]; omega) (by omega)
    rw [h, hC1]
    simp only [Int.toNat_natCast, clV, Value.cells]
    rw [made_cls]
  have g1 : (1 : Int) ≤ n := by omega
  have g2 : (n : Int) ≤ 64 := by omega
  go_enter Try.func20, Try.ntmps20
  go_wp2_with fail
  generalize hV : World.alloc (World.alloc (World.alloc w _) _) _ = w1
  have hb1 : Below w.heap.size w w1 := by subst hV; (repeat (first | with_reducible exact Below.refl _ _ | with_reducible assumption | with_reducible refine Below.drew ?_ | with_reducible refine Below.drewN ?_ _ | with_reducible refine Below.alloc1 ?_ _ | with_reducible refine Below.setCell1 ?_ (by first | omega | (simp; done) | (simp; omega)) _ | with_reducible refine Below.step ?_ (by with_reducible assumption)))
  have k0 : Bk w1 w.heap.size 30 (stC none 0 0 none 0 0) := by subst hV; (repeat (first | with_reducible exact Bk.new' _ _ _ _ (by simp; done) | with_reducible assumption | with_reducible refine Bk.alloc ?_ _ | with_reducible refine Bk.drew ?_ | with_reducible refine Bk.drewN ?_ _ | with_reducible refine Bk.step ?_ (by with_reducible assumption) | with_reducible refine Bk.far ?_ (by first | omega | (simp; done) | (simp; omega)) _))
  have k1 : Bk w1 (w.heap.size + 1) 63 (cls (newL n)) := by subst hV; (repeat (first | with_reducible exact Bk.new' _ _ _ _ (by simp; done) | with_reducible assumption | with_reducible refine Bk.alloc ?_ _ | with_reducible refine Bk.drew ?_ | with_reducible refine Bk.drewN ?_ _ | with_reducible refine Bk.step ?_ (by with_reducible assumption) | with_reducible refine Bk.far ?_ (by first | omega | (simp; done) | (simp; omega)) _))
  have k2 : Bk w1 (w.heap.size + 2) 30 (stC (some ⟨w.heap.size + 1, 0, none⟩) n n none 0 0) := by subst hV; (repeat (first | with_reducible exact Bk.new' _ _ _ _ (by simp; done) | with_reducible assumption | with_reducible refine Bk.alloc ?_ _ | with_reducible refine Bk.drew ?_ | with_reducible refine Bk.drewN ?_ _ | with_reducible refine Bk.step ?_ (by with_reducible assumption) | with_reducible refine Bk.far ?_ (by first | omega | (simp; done) | (simp; omega)) _))
  clear hV hmk hiC hC0 hC1 hC2
  go_loopw [17] (fun i wr => ∃ (k : Nat) (A' : Option Addr) (c' : Nat), k ≤ n ∧ i = .int .i64 k ∧ wr.ownsRow (w.heap.size + 3) 3 1 (.slice A' k c') k (ints (downs n k)) ∧ Bk wr w.heap.size 30 (stC none 0 0 none 0 0) ∧ Bk wr (w.heap.size + 1) 63 (cls (newL n)) ∧ Bk wr (w.heap.size + 2) 30 (stC (some ⟨w.heap.size + 1, 0, none⟩) n n A' k c') ∧ Below w.heap.size w wr) (fun i _ => n - (intOf i).toNat)
  case atStart => exact ⟨0, none, 0, Nat.zero_le _, rfl, ⟨rfl, .inl ⟨rfl, rfl⟩⟩, k0, k1, k2, hb1⟩
  case round =>
    obtain ⟨k, A', c', hk, rfl, own, j0, j1, j2, hbr⟩ := hrel
    clear k0 k1 k2 hb1
    by_cases hlt : k < n
    · have j0_0 := j0.cell 0; have j0_f0 := j0.frozen 0; have j0_1 := j0.cell 1; have j0_f1 := j0.frozen 1; simp only [List.set_cons_zero, List.set_cons_succ, List.getElem?_cons_zero, List.getElem?_cons_succ] at j0_0 j0_1; have lt_j0 := j0.lt; have j2_0 := j2.cell 0; have j2_f0 := j2.frozen 0; have j2_1 := j2.cell 1; have j2_f1 := j2.frozen 1; simp only [List.set_cons_zero, List.set_cons_succ, List.getElem?_cons_zero, List.getElem?_cons_succ] at j2_0 j2_1; have lt_j2 := j2.lt
      have lt1 := j1.lt
      have S1 : IntKind.i64.wrap ((n : Int) - 1) = (n : Int) - 1 := IntWalk.i64_in _ (by omega)
      have S2 : IntKind.i64.wrap ((n : Int) - 1 - k) = (n : Int) - 1 - k := IntWalk.i64_in _ (by omega)
      have hv0 := own_ne own j0 (by decide)
      have hv1 := own_ne own j1 (by decide)
      have hv2 := own_ne own j2 (by decide)
      go_wp2_with (at_builtin; refine wpList_app2 rfl (.tmp 21) (.tmp 26) 23 rfl (w.heap.size + 3) 3 iT _ 1 8 Try.underlying23 hi hz0 hz1 hz2 rfl (by omega) A' k c' (ints (downs n k)) rfl (own.alloc _) ⟨wr.heap.size, 0, none⟩ 1 1 [.int .i64 ((n : Int) - 1 - k)] rfl rfl (news_at (cs := [_])) (by simp [Value.oneCell']) (by unfold maxLen; omega) (by omega) (by simp; omega) (by omega) ?_; intro g cap w7 own7 hb7 hgr7; (have k7 := (j2.alloc (.cells #[.int .i64 ((n : Int) - 1 - k)] 3)).kept hgr7 hv2); have k7_0 := k7.cell 0; have k7_f0 := k7.frozen 0; have k7_1 := k7.cell 1; have k7_f1 := k7.frozen 1; simp only [List.set_cons_zero, List.set_cons_succ, List.getElem?_cons_zero, List.getElem?_cons_succ] at k7_0 k7_1; have lt7 := k7.lt)
      have q0 := (j0.alloc (.cells #[.int .i64 ((n : Int) - 1 - k)] 3)).kept hgr7 hv0
      have q1 := (j1.alloc (.cells #[.int .i64 ((n : Int) - 1 - k)] 3)).kept hgr7 hv1
      have hb8 : Below w.heap.size w w7 := (hbr.alloc1 (.cells #[.int .i64 ((n : Int) - 1 - k)] 3)).trans (hb7.mono (by omega))
      go_roundw
      case rel =>
        refine ⟨k + 1, some ⟨g, 0, none⟩, cap, by omega, by go_num, ?_, q0.far (by dsimp only; omega) _, q1.far (by dsimp only; omega) _, k7.set_ 1 _, hb8.setCell (by dsimp only; omega) _⟩
        rw [show ints (downs n (k + 1)) = ints (downs n k) ++ [.int .i64 ((n : Int) - 1 - k)] by rw [downs_snoc]; simp [ints]]
        exact own_far own7 (by dsimp only; omega) _
      case measure => simp [intOf]; omega
    · have hkn : k = n := by omega
      subst hkn
      have j0_0 := j0.cell 0; have j0_f0 := j0.frozen 0; have j0_1 := j0.cell 1; have j0_f1 := j0.frozen 1; simp only [List.set_cons_zero, List.set_cons_succ, List.getElem?_cons_zero, List.getElem?_cons_succ] at j0_0 j0_1; have lt_j0 := j0.lt; have j2_0 := j2.cell 0; have j2_f0 := j2.frozen 0; have j2_1 := j2.cell 1; have j2_f1 := j2.frozen 1; simp only [List.set_cons_zero, List.set_cons_succ, List.getElem?_cons_zero, List.getElem?_cons_succ] at j2_0 j2_1; have lt_j2 := j2.lt
      have lt1 := j1.lt
      go_wp2_with fail
      (try clear j0_0 j0_f0 j0_1 j0_f1 lt_j0) ; (try clear j2_0 j2_f0 j2_1 j2_f1 lt_j2)
      generalize hV : World.setCell (World.setCell wr _ _) _ _ = w4
      have hb4 : Below w.heap.size w w4 := by subst hV; exact (hbr.setCell (by dsimp only; omega) _).setCell (by dsimp only; omega) _
      replace j0 : Bk w4 w.heap.size 30 (stC (some ⟨w.heap.size + 1, 0, none⟩) k k A' k c') := by subst hV; exact (j0.set_ 0 _).set_ 1 _
      replace j1 : Bk w4 (w.heap.size + 1) 63 (cls (newL k) ++ []) := by subst hV; rw [List.append_nil]; refine (j1.far ?_ _).far ?_ _ <;> (dsimp only; omega)
      replace own : w4.ownsRow (w.heap.size + 3) 3 1 (.slice A' k c') k (ints (downs k k)) := by subst hV; refine own_far (own_far own ?_ _) ?_ _ <;> (dsimp only; omega)
      clear hV
      have j0_0 := j0.cell 0; have j0_f0 := j0.frozen 0; have j0_1 := j0.cell 1; have j0_f1 := j0.frozen 1; simp only [List.set_cons_zero, List.set_cons_succ, List.getElem?_cons_zero, List.getElem?_cons_succ] at j0_0 j0_1; have lt_j0 := j0.lt
      have hcap7 : k ≤ c' := by
        rcases own.2 with ⟨e, h0⟩ | ⟨g, cap, cur, e, _, _, h0, _⟩
        · omega
        · injection e with _ _ e; omega
      exact bodyPost_ret (v := .tuple #[stV (some ⟨w.heap.size + 1, 0, none⟩) k k A' k c', .int .i64 0]) (by simp only [results, Try.results20]; go_simp) rfl ⟨_, rfl, ⟨some ⟨w.heap.size + 1, 0, none⟩, k, A', c', by rw [List.length_replicate, downs_len], by rw [downs_len]; omega, j1.rd1, own_rd own, fun ad e => by (cases e; show w.heap.size ≤ w.heap.size + 1; omega), (own_fr own).mono (by omega)⟩, hb4⟩
end Go.Proofs.Ytnmpighdkdffbaa
