/- callboyref28: turn. -/
import Derived.Test.YteblbleehnkcmaaRef28i
namespace Go.Proofs.Yteblbleehnkcmaa
open Go.RowKit Go.Sort
set_option linter.unusedSimpArgs false
set_option linter.unusedVariables false

structure TR where
  df : Int
  left : Int
  n : Nat
  ends : Bool
def rTurn (df add left : Int) (xs : List Int) : TR :=
  if xs = [] then ⟨0, left, 0, false⟩ else
  let r := tGo (min (df + add) 1073741824) left xs
  ⟨if r.2.2.2 = 0 then 0 else r.1, r.2.1, r.2.2.1, r.2.2.2 == 2⟩
set_option maxRecDepth 100000 in
set_option maxHeartbeats 8000000 in
theorem ref_turn_any (f : Fl) (add left : Int) (A : Option Addr) (c : Nat) (xs : List Int) (w : World) (hf : 0 ≤ f.df ∧ f.df ≤ 1073741824) (hadd : 0 ≤ add ∧ add ≤ 32768) (hleft : 0 ≤ left ∧ left ≤ 1048576) (hl : xs.length ≤ 1000) (hx : ∀ n ∈ xs, 1 ≤ n ∧ n ≤ 128) (ha : Rd w w.heap.size A (ints xs)) :
    Calls Try.prog 34 #[flV f, .int .i64 add, .int .i64 left, .slice A xs.length c] w fun e w' => e = .returned (.tuple #[flV ⟨f.id, f.wt, (rTurn f.df add left xs).df⟩, .int .i64 (rTurn f.df add left xs).left, .int .i64 (rTurn f.df add left xs).n, .bool (rTurn f.df add left xs).ends]) ∧ Below w.heap.size w w' := by
  have HX := hide hx
  clear hx
  generalize hR : rTurn f.df add left xs = R
  obtain ⟨id, wt, df⟩ := f
  dsimp only at *
  rcases hxe : xs with _ | ⟨a, r⟩
  · have hr : R = ⟨0, left, 0, false⟩ := by rw [← hR, hxe]; rfl
    have HR := hide hr
    clear hR hr
    subst hxe
    go_enter Try.func34, Try.ntmps34
    go_wp2
    generalize hV : World.alloc (World.alloc w _) _ = w4
    have hb4 : Below w.heap.size w w4 := by subst hV; (repeat (first | with_reducible exact Below.refl _ _ | with_reducible assumption | with_reducible refine Below.drew ?_ | with_reducible refine Below.drewN ?_ _ | with_reducible refine Below.alloc1 ?_ _ | with_reducible refine Below.setCell1 ?_ (by first | omega | (simp; done) | (simp; omega)) _ | with_reducible refine Below.step ?_ (by with_reducible assumption)))
    have k1 : Bk w4 (w.heap.size + 1) 73 (flC ⟨id, wt, 0⟩) := by subst hV; exact Bk.new' (World.alloc w _) 73 (flC ⟨id, wt, 0⟩) _ (by simp)
    clear hV
    have k1_0 := k1.cell 0; have k1_f0 := k1.frozen 0; have k1_1 := k1.cell 1; have k1_f1 := k1.frozen 1; have k1_2 := k1.cell 2; have k1_f2 := k1.frozen 2; simp only [List.set_cons_zero, List.set_cons_succ, List.getElem?_cons_zero, List.getElem?_cons_succ] at k1_0 k1_1 k1_2; have lt_k1 := k1.lt
    exact bodyPost_ret (v := .tuple #[flV ⟨id, wt, 0⟩, .int .i64 left, .int .i64 0, .bool false]) (by simp only [results, Try.results34]; go_simp) rfl ⟨by rw [HR.out]; rfl, hb4⟩
  · rw [← hxe]
    have hne : 0 < (xs.length : Int) := by rw [hxe, List.length_cons]; omega
    have hr : R = ⟨if (tGo (min (df + add) 1073741824) left xs).2.2.2 = 0 then 0 else (tGo (min (df + add) 1073741824) left xs).1, (tGo (min (df + add) 1073741824) left xs).2.1, (tGo (min (df + add) 1073741824) left xs).2.2.1, (tGo (min (df + add) 1073741824) left xs).2.2.2 == 2⟩ := by
      rw [← hR]; unfold rTurn; rw [if_neg (by rw [hxe]; simp)]
    have HR := hide hr
    clear hR hr hxe
    obtain ⟨d0, hd0⟩ : ∃ d0, d0 = min (df + add) 1073741824 := ⟨_, rfl⟩
    rw [← hd0] at HR
    have hmn : (if df + add < 1073741824 then df + add else 1073741824) = d0 := by rw [hd0]; split <;> omega
    have hd1 : 0 ≤ d0 ∧ d0 ≤ 1073741824 := by omega
    have hz0 : ((xs.length : Int) == 0) = false := by rw [beq_eq_false_iff_ne]; omega
    clear hd0
    go_enter Try.func34, Try.ntmps34
    go_wp2
    generalize hV : World.alloc (World.alloc w _) _ = w1
    have hb1 : Below w.heap.size w w1 := by subst hV; (repeat (first | with_reducible exact Below.refl _ _ | with_reducible assumption | with_reducible refine Below.drew ?_ | with_reducible refine Below.drewN ?_ _ | with_reducible refine Below.alloc1 ?_ _ | with_reducible refine Below.setCell1 ?_ (by first | omega | (simp; done) | (simp; omega)) _ | with_reducible refine Below.step ?_ (by with_reducible assumption)))
    have k0 : Bk w1 w.heap.size 73 (flC ⟨id, wt, d0⟩) := by subst hV; exact (Bk.new' w 73 (flC ⟨id, wt, d0⟩) _ rfl).alloc _
    have k1 : Bk w1 (w.heap.size + 1) 73 (flC ⟨0, 0, 0⟩) := by subst hV; exact Bk.new' (World.alloc w _) 73 (flC ⟨0, 0, 0⟩) _ (by simp)
    clear hV hmn
    go_loopw [2, 12] (fun lv nv wr => ∃ (k : Nat) (df' lf : Int), k ≤ xs.length ∧ nv = .int .i64 k ∧ lv = .int .i64 lf ∧ Hid (tGo d0 left xs = ((tGo df' lf (xs.drop k)).1, (tGo df' lf (xs.drop k)).2.1, (tGo df' lf (xs.drop k)).2.2.1 + k, (tGo df' lf (xs.drop k)).2.2.2)) ∧ (0 ≤ df' ∧ df' ≤ 1073741824) ∧ (0 ≤ lf ∧ lf ≤ 1048576) ∧ Bk wr w.heap.size 73 (flC ⟨id, wt, df'⟩) ∧ Bk wr (w.heap.size + 1) 73 (flC ⟨0, 0, 0⟩) ∧ Below w.heap.size w wr) (fun _ nv _ => xs.length - (intOf nv).toNat)
    case atStart => exact ⟨0, d0, left, Nat.zero_le _, rfl, rfl, rfl, hd1, hleft, k0, k1, hb1⟩
    case round =>
      clear k0 k1 hb1
      obtain ⟨k, df', lf, hk, rfl, rfl, hG, hdf, hlf, k0, k1, hb⟩ := hrel
      have k0_0 := k0.cell 0; have k0_f0 := k0.frozen 0; have k0_1 := k0.cell 1; have k0_f1 := k0.frozen 1; have k0_2 := k0.cell 2; have k0_f2 := k0.frozen 2; simp only [List.set_cons_zero, List.set_cons_succ, List.getElem?_cons_zero, List.getElem?_cons_succ] at k0_0 k0_1 k0_2; have lt_k0 := k0.lt; have k1_0 := k1.cell 0; have k1_f0 := k1.frozen 0; have k1_1 := k1.cell 1; have k1_f1 := k1.frozen 1; have k1_2 := k1.cell 2; have k1_f2 := k1.frozen 2; simp only [List.set_cons_zero, List.set_cons_succ, List.getElem?_cons_zero, List.getElem?_cons_succ] at k1_0 k1_1 k1_2; have lt_k1 := k1.lt
      by_cases hlt : k < xs.length
      · obtain ⟨ad, rfl, hadb, c1⟩ := Rd.in (ha.below hb) hlt
        have hs := HX.out _ (List.getElem_mem hlt)
        have hd := List.drop_eq_getElem_cons hlt
        have hg := hG.out
        rw [hd] at hg
        replace hG := hide hg
        clear hg hd
        generalize xs[k] = s at *
        by_cases h1 : s ≤ df'
        · by_cases h2 : s ≤ lf
          · have hg := hG.out
            rw [tGo_step (by omega) (by omega)] at hg
            replace hG := hide hg
            clear hg
            go_wp2
            go_quiet (fail)
            go_wp2
            generalize hV : World.drewN _ _ = w2
            have hb2 : Below w.heap.size w w2 := by subst hV; (repeat first | with_reducible exact hb | refine Below.drewN ?_ _)
            replace k0 : Bk w2 w.heap.size 73 (flC ⟨id, wt, df'⟩) := by subst hV; exact k0
            replace k1 : Bk w2 (w.heap.size + 1) 73 (flC ⟨0, 0, 0⟩) := by subst hV; exact k1
            replace c1 : w2.cell? (ad.add k) = some (.int .i64 s) := by subst hV; exact c1
            (try clear k0_0 k0_f0 k0_1 k0_f1 k0_2 k0_f2 lt_k0) ; (try clear k1_0 k1_f0 k1_1 k1_f1 k1_2 k1_f2 lt_k1)
            clear hV hb
            have k0_0 := k0.cell 0; have k0_f0 := k0.frozen 0; have k0_1 := k0.cell 1; have k0_f1 := k0.frozen 1; have k0_2 := k0.cell 2; have k0_f2 := k0.frozen 2; simp only [List.set_cons_zero, List.set_cons_succ, List.getElem?_cons_zero, List.getElem?_cons_succ] at k0_0 k0_1 k0_2; have lt_k0 := k0.lt; have k1_0 := k1.cell 0; have k1_f0 := k1.frozen 0; have k1_1 := k1.cell 1; have k1_f1 := k1.frozen 1; have k1_2 := k1.cell 2; have k1_f2 := k1.frozen 2; simp only [List.set_cons_zero, List.set_cons_succ, List.getElem?_cons_zero, List.getElem?_cons_succ] at k1_0 k1_1 k1_2; have lt_k1 := k1.lt
            have hn2 : (⟨w.heap.size, 2, none⟩ : Addr) ≠ ad.add k := fun e => by have := congrArg Addr.block e; rw [add_block] at this; dsimp only at this; omega
            go_still_tail 7, (by kernel_rfl)
            change wpList _ _ _ _ _ w2.drew
            go_wp2
            (try clear k0_0 k0_f0 k0_1 k0_f1 k0_2 k0_f2 lt_k0) ; (try clear k1_0 k1_f0 k1_1 k1_f1 k1_2 k1_f2 lt_k1)
            generalize hV : World.drew _ = w3
            have hb3 : Below w.heap.size w w3 := by subst hV; exact Below.drew (hb2.setCell (by dsimp only; omega) _)
            have k03 : Bk w3 w.heap.size 73 (flC ⟨id, wt, df' - s⟩) := by subst hV; exact Bk.drew (k0.set_ 2 _)
            have k13 : Bk w3 (w.heap.size + 1) 73 (flC ⟨0, 0, 0⟩) := by subst hV; exact Bk.drew (k1.far (by dsimp only; omega) _)
            clear hV
            go_roundw
            case rel => exact ⟨k + 1, df' - s, lf - s, by omega, by go_num, by first | rfl | go_num, by
              show _ = _
              rw [hG.out]
              simp only [Prod.mk.injEq, true_and, and_true]; omega, by omega, by omega, k03, k13, hb3⟩
            case measure => simp [intOf]; omega
          · have h2' : decide (s ≤ lf) = false := by simpa using h2
            have h3 : ((k : Int) == (xs.length : Int)) = false := by rw [beq_eq_false_iff_ne]; omega
            have hg := hG.out
            rw [tGo, if_neg (by omega), if_pos (by omega)] at hg
            have HR2 : Hid (R = ⟨df', lf, k, true⟩) := by unfold Hid; rw [HR.out, hg]; simp
            clear hg hG HR
            go_wp2
            go_quiet (fail)
            go_wp2
            generalize hV : World.drewN _ _ = w2
            have hb2 : Below w.heap.size w w2 := by subst hV; (repeat first | with_reducible exact hb | refine Below.drewN ?_ _)
            replace k0 : Bk w2 w.heap.size 73 (flC ⟨id, wt, df'⟩) := by subst hV; exact k0
            replace k1 : Bk w2 (w.heap.size + 1) 73 (flC ⟨0, 0, 0⟩) := by subst hV; exact k1
            replace c1 : w2.cell? (ad.add k) = some (.int .i64 s) := by subst hV; exact c1
            (try clear k0_0 k0_f0 k0_1 k0_f1 k0_2 k0_f2 lt_k0) ; (try clear k1_0 k1_f0 k1_1 k1_f1 k1_2 k1_f2 lt_k1)
            clear hV hb
            have k0_0 := k0.cell 0; have k0_f0 := k0.frozen 0; have k0_1 := k0.cell 1; have k0_f1 := k0.frozen 1; have k0_2 := k0.cell 2; have k0_f2 := k0.frozen 2; simp only [List.set_cons_zero, List.set_cons_succ, List.getElem?_cons_zero, List.getElem?_cons_succ] at k0_0 k0_1 k0_2; have lt_k0 := k0.lt; have k1_0 := k1.cell 0; have k1_f0 := k1.frozen 0; have k1_1 := k1.cell 1; have k1_f1 := k1.frozen 1; have k1_2 := k1.cell 2; have k1_f2 := k1.frozen 2; simp only [List.set_cons_zero, List.set_cons_succ, List.getElem?_cons_zero, List.getElem?_cons_succ] at k1_0 k1_1 k1_2; have lt_k1 := k1.lt
            have hn0 : (⟨w.heap.size + 1, 0, none⟩ : Addr) ≠ ad.add k := fun e => by have := congrArg Addr.block e; rw [add_block] at this; dsimp only at this; omega
            have hn1 : (⟨w.heap.size + 1, 1, none⟩ : Addr) ≠ ad.add k := fun e => by have := congrArg Addr.block e; rw [add_block] at this; dsimp only at this; omega
            have hn2 : (⟨w.heap.size + 1, 2, none⟩ : Addr) ≠ ad.add k := fun e => by have := congrArg Addr.block e; rw [add_block] at this; dsimp only at this; omega
            go_region
            go_wp2
            (try clear k0_0 k0_f0 k0_1 k0_f1 k0_2 k0_f2 lt_k0) ; (try clear k1_0 k1_f0 k1_1 k1_f1 k1_2 k1_f2 lt_k1)
            generalize hV : World.drew _ = w4
            have hb4 : Below w.heap.size w w4 := by subst hV; exact Below.drew (((hb2.setCell (by dsimp only; omega) _).setCell (by dsimp only; omega) _).setCell (by dsimp only; omega) _)
            have k14 : Bk w4 (w.heap.size + 1) 73 (flC ⟨id, wt, df'⟩) := by subst hV; exact Bk.drew (((k1.set_ 0 _).set_ 1 _).set_ 2 _)
            clear hV
            have k14_0 := k14.cell 0; have k14_f0 := k14.frozen 0; have k14_1 := k14.cell 1; have k14_f1 := k14.frozen 1; have k14_2 := k14.cell 2; have k14_f2 := k14.frozen 2; simp only [List.set_cons_zero, List.set_cons_succ, List.getElem?_cons_zero, List.getElem?_cons_succ] at k14_0 k14_1 k14_2; have lt_k14 := k14.lt
            exact bodyPost_ret (v := .tuple #[flV ⟨id, wt, df'⟩, .int .i64 lf, .int .i64 k, .bool true]) (by simp only [results, Try.results34]; go_simp) rfl ⟨by rw [HR2.out], hb4⟩
        · have h1' : decide (s ≤ df') = false := by simpa using h1
          have h3 : ((k : Int) == (xs.length : Int)) = false := by rw [beq_eq_false_iff_ne]; omega
          have hg := hG.out
          rw [tGo, if_pos (by omega)] at hg
          have HR2 : Hid (R = ⟨df', lf, k, false⟩) := by unfold Hid; rw [HR.out, hg]; simp
          clear hg hG HR
          go_wp2
          go_quiet (fail)
          go_wp2
          generalize hV : World.drewN _ _ = w2
          have hb2 : Below w.heap.size w w2 := by subst hV; (repeat first | with_reducible exact hb | refine Below.drewN ?_ _)
          replace k0 : Bk w2 w.heap.size 73 (flC ⟨id, wt, df'⟩) := by subst hV; exact k0
          replace k1 : Bk w2 (w.heap.size + 1) 73 (flC ⟨0, 0, 0⟩) := by subst hV; exact k1
          replace c1 : w2.cell? (ad.add k) = some (.int .i64 s) := by subst hV; exact c1
          (try clear k0_0 k0_f0 k0_1 k0_f1 k0_2 k0_f2 lt_k0) ; (try clear k1_0 k1_f0 k1_1 k1_f1 k1_2 k1_f2 lt_k1)
          clear hV hb
          have k0_0 := k0.cell 0; have k0_f0 := k0.frozen 0; have k0_1 := k0.cell 1; have k0_f1 := k0.frozen 1; have k0_2 := k0.cell 2; have k0_f2 := k0.frozen 2; simp only [List.set_cons_zero, List.set_cons_succ, List.getElem?_cons_zero, List.getElem?_cons_succ] at k0_0 k0_1 k0_2; have lt_k0 := k0.lt; have k1_0 := k1.cell 0; have k1_f0 := k1.frozen 0; have k1_1 := k1.cell 1; have k1_f1 := k1.frozen 1; have k1_2 := k1.cell 2; have k1_f2 := k1.frozen 2; simp only [List.set_cons_zero, List.set_cons_succ, List.getElem?_cons_zero, List.getElem?_cons_succ] at k1_0 k1_1 k1_2; have lt_k1 := k1.lt
          have hn0 : (⟨w.heap.size + 1, 0, none⟩ : Addr) ≠ ad.add k := fun e => by have := congrArg Addr.block e; rw [add_block] at this; dsimp only at this; omega
          have hn1 : (⟨w.heap.size + 1, 1, none⟩ : Addr) ≠ ad.add k := fun e => by have := congrArg Addr.block e; rw [add_block] at this; dsimp only at this; omega
          have hn2 : (⟨w.heap.size + 1, 2, none⟩ : Addr) ≠ ad.add k := fun e => by have := congrArg Addr.block e; rw [add_block] at this; dsimp only at this; omega
          go_region
          go_wp2
          (try clear k0_0 k0_f0 k0_1 k0_f1 k0_2 k0_f2 lt_k0) ; (try clear k1_0 k1_f0 k1_1 k1_f1 k1_2 k1_f2 lt_k1)
          generalize hV : World.drew _ = w4
          have hb4 : Below w.heap.size w w4 := by subst hV; exact Below.drew (((hb2.setCell (by dsimp only; omega) _).setCell (by dsimp only; omega) _).setCell (by dsimp only; omega) _)
          have k14 : Bk w4 (w.heap.size + 1) 73 (flC ⟨id, wt, df'⟩) := by subst hV; exact Bk.drew (((k1.set_ 0 _).set_ 1 _).set_ 2 _)
          clear hV
          have k14_0 := k14.cell 0; have k14_f0 := k14.frozen 0; have k14_1 := k14.cell 1; have k14_f1 := k14.frozen 1; have k14_2 := k14.cell 2; have k14_f2 := k14.frozen 2; simp only [List.set_cons_zero, List.set_cons_succ, List.getElem?_cons_zero, List.getElem?_cons_succ] at k14_0 k14_1 k14_2; have lt_k14 := k14.lt
          exact bodyPost_ret (v := .tuple #[flV ⟨id, wt, df'⟩, .int .i64 lf, .int .i64 k, .bool false]) (by simp only [results, Try.results34]; go_simp) rfl ⟨by rw [HR2.out], hb4⟩
      · have hkx : k = xs.length := by omega
        have hg := hG.out
        rw [List.drop_eq_nil_of_le (by omega), tGo] at hg
        have HR2 : Hid (R = ⟨0, lf, k, false⟩) := by unfold Hid; rw [HR.out, hg]; simp
        have h3 : ((k : Int) == (xs.length : Int)) = true := by rw [beq_iff_eq]; omega
        have h4 : decide ((k : Int) < (xs.length : Int)) = false := by simp; omega
        clear hg hG HR
        go_wp2
        go_quiet (fail)
        go_wp2
        (try clear k0_0 k0_f0 k0_1 k0_f1 k0_2 k0_f2 lt_k0) ; (try clear k1_0 k1_f0 k1_1 k1_f1 k1_2 k1_f2 lt_k1)
        generalize hV : World.setCell (World.setCell (World.setCell _ _ _) _ _) _ _ = w4
        have hb4 : Below w.heap.size w w4 := by subst hV; (repeat first | with_reducible exact hb | refine Below.setCell ?_ (by dsimp only; omega) _ | refine Below.drewN ?_ _)
        have k14 : Bk w4 (w.heap.size + 1) 73 (flC ⟨id, wt, 0⟩) := by subst hV; refine Bk.set_ (Bk.set_ (Bk.set_ (cs := flC ⟨0, 0, 0⟩) ?_ 0 _) 1 _) 2 _; (repeat first | exact k1 | refine Bk.far ?_ (by dsimp only; omega) _)
        clear hV
        have k14_0 := k14.cell 0; have k14_f0 := k14.frozen 0; have k14_1 := k14.cell 1; have k14_f1 := k14.frozen 1; have k14_2 := k14.cell 2; have k14_f2 := k14.frozen 2; simp only [List.set_cons_zero, List.set_cons_succ, List.getElem?_cons_zero, List.getElem?_cons_succ] at k14_0 k14_1 k14_2; have lt_k14 := k14.lt
        exact bodyPost_ret (v := .tuple #[flV ⟨id, wt, 0⟩, .int .i64 lf, .int .i64 k, .bool false]) (by simp only [results, Try.results34]; go_simp) rfl ⟨by rw [HR2.out], hb4⟩
end Go.Proofs.Yteblbleehnkcmaa
