/- Contracts of package level, further: Run. -/
import Derived.Test.YtbajakifkidccaaLev3
namespace Go.Proofs.Ytbajakifkidccaa
open Go.RowKit
set_option linter.unusedSimpArgs false
set_option linter.unusedVariables false

/-- states behind n loads, and the levels -/
def vRun (up dn : Nat → Int) (hold : Int) (l : List Int) : (Int × Int × Int) × List Int :=
  l.foldl (fun x load => (vStep up dn hold x.1.1 x.1.2.1 x.1.2.2 load (x.2.length + 1), x.2 ++ [(vStep up dn hold x.1.1 x.1.2.1 x.1.2.2 load (x.2.length + 1)).1])) ((0, 0, -1), [])
theorem vRun_snoc (up dn : Nat → Int) (hold : Int) (l : List Int) (load : Int) : vRun up dn hold (l ++ [load]) =
    (vStep up dn hold (vRun up dn hold l).1.1 (vRun up dn hold l).1.2.1 (vRun up dn hold l).1.2.2 load ((vRun up dn hold l).2.length + 1),
      (vRun up dn hold l).2 ++ [(vStep up dn hold (vRun up dn hold l).1.1 (vRun up dn hold l).1.2.1 (vRun up dn hold l).1.2.2 load ((vRun up dn hold l).2.length + 1)).1]) := by
  simp [vRun, List.foldl_append]
theorem vRun_length (up dn : Nat → Int) (hold : Int) (l : List Int) : (vRun up dn hold l).2.length = l.length := by
  unfold vRun
  suffices h : ∀ x : (Int × Int × Int) × List Int, (l.foldl (fun x load => (vStep up dn hold x.1.1 x.1.2.1 x.1.2.2 load (x.2.length + 1), x.2 ++ [(vStep up dn hold x.1.1 x.1.2.1 x.1.2.2 load (x.2.length + 1)).1])) x).2.length = x.2.length + l.length by simpa using h ((0, 0, -1), [])
  induction l with
  | nil => intro x; rfl
  | cons a l ih => intro x; rw [List.foldl_cons, ih]; simp; omega
theorem vint_info : (Try.prog.info? 3).map (fun i => (i.zero, i.size, i.bytes)) = some (some (.int .i64 0), 1, 8) := by kernel_rfl
theorem level_Run_no {up dn : Nat → Int} {hold : Int} (h : vCheck up dn hold ≠ 0) (A : Option Addr) (n c : Nat) (w : World) :
    Calls Try.prog 19 #[lcV up dn hold, .slice A n c] w fun e w' => e = .returned (.slice none 0 0) ∧ Below w.heap.size w w' := by
  have hv := vCheck_cases up dn hold
  have hv' : vCheck up dn hold = 8 ∨ vCheck up dn hold = 10 := by omega
  clear h hv
  rcases hv' with h1 | h1
  all_goals
    have H1 := hide h1
    clear h1
    go_enter Try.func19, Try.ntmps19
    go_wp2_with fail
    refine (level_Check_is H1.out _).mono ?_; rintro e w1 ⟨rfl, hb1⟩
    go_wp2_with fail
    go_ret
    exact ⟨rfl, by (repeat (first | with_reducible exact Below.refl _ _ | with_reducible assumption | with_reducible refine Below.drew ?_ | with_reducible refine Below.drewN ?_ _ | with_reducible refine Below.alloc1 ?_ _ | with_reducible refine Below.setCell1 ?_ (by first | omega | (simp; done) | (simp; omega)) _ | with_reducible refine Below.step ?_ (by with_reducible assumption)))⟩
set_option maxHeartbeats 2000000 in
theorem level_Run_yes {up dn : Nat → Int} {hold : Int} (h0 : vCheck up dn hold = 0) (A : Option Addr) (c : Nat) (l : List Int) (hl : l.length ≤ 1000000) (w : World) (hA : Rd w w.heap.size A (l.map (Value.int .i64))) :
    Calls Try.prog 19 #[lcV up dn hold, .slice A l.length c] w fun e w' => ∃ B d, e = .returned (.slice B l.length d) ∧ Rd w' w'.heap.size B ((vRun up dn hold l).2.map (Value.int .i64)) ∧ Below w.heap.size w w' := by
  obtain ⟨i0, hi, hz0, hz1, hz2⟩ := info_parts vint_info
  have H0 := hide h0
  clear h0
  go_enter Try.func19, Try.ntmps19
  go_wp2_with fail
  generalize hV : World.alloc w _ = w0
  have hb0 : Below w.heap.size w w0 := by subst hV; (repeat (first | with_reducible exact Below.refl _ _ | with_reducible assumption | with_reducible refine Below.drew ?_ | with_reducible refine Below.drewN ?_ _ | with_reducible refine Below.alloc1 ?_ _ | with_reducible refine Below.setCell1 ?_ (by first | omega | (simp; done) | (simp; omega)) _ | with_reducible refine Below.step ?_ (by with_reducible assumption)))
  have q0 : Bk w0 w.heap.size 28 (lcC up dn hold) := by subst hV; (repeat (first | with_reducible exact Bk.new' _ _ _ _ (by simp; done) | with_reducible assumption | with_reducible refine Bk.alloc ?_ _ | with_reducible refine Bk.drew ?_ | with_reducible refine Bk.drewN ?_ _ | with_reducible refine Bk.step ?_ (by with_reducible assumption) | with_reducible refine Bk.far ?_ (by first | omega | (simp; done) | (simp; omega)) _))
  clear hV
  refine (level_Check_is H0.out _).mono ?_; rintro e w1 ⟨rfl, hb1⟩
  replace q0 := q0.step hb1
  replace hb0 : Below w.heap.size w w1 := by (repeat (first | with_reducible exact Below.refl _ _ | with_reducible assumption | with_reducible refine Below.drew ?_ | with_reducible refine Below.drewN ?_ _ | with_reducible refine Below.alloc1 ?_ _ | with_reducible refine Below.setCell1 ?_ (by first | omega | (simp; done) | (simp; omega)) _ | with_reducible refine Below.step ?_ (by with_reducible assumption)))
  clear hb1
  go_wp2_with fail
  refine (level_New_any _).mono ?_; rintro e w2 ⟨rfl, hb2⟩
  replace q0 := q0.step hb2
  replace hb0 : Below w.heap.size w w2 := by (repeat (first | with_reducible exact Below.refl _ _ | with_reducible assumption | with_reducible refine Below.drew ?_ | with_reducible refine Below.drewN ?_ _ | with_reducible refine Below.alloc1 ?_ _ | with_reducible refine Below.setCell1 ?_ (by first | omega | (simp; done) | (simp; omega)) _ | with_reducible refine Below.step ?_ (by with_reducible assumption)))
  clear hb2
  go_wp2_with fail
  have hs2 : w.heap.size < w2.heap.size := q0.lt
  generalize hV : World.alloc w2 _ = w3
  have q1 : Bk w3 w2.heap.size 29 (lsC 0 0 (-1)) := by subst hV; (repeat (first | with_reducible exact Bk.new' _ _ _ _ (by simp; done) | with_reducible assumption | with_reducible refine Bk.alloc ?_ _ | with_reducible refine Bk.drew ?_ | with_reducible refine Bk.drewN ?_ _ | with_reducible refine Bk.step ?_ (by with_reducible assumption) | with_reducible refine Bk.far ?_ (by first | omega | (simp; done) | (simp; omega)) _))
  replace q0 : Bk w3 w.heap.size 28 (lcC up dn hold) := by subst hV; (repeat (first | with_reducible exact Bk.new' _ _ _ _ (by simp; done) | with_reducible assumption | with_reducible refine Bk.alloc ?_ _ | with_reducible refine Bk.drew ?_ | with_reducible refine Bk.drewN ?_ _ | with_reducible refine Bk.step ?_ (by with_reducible assumption) | with_reducible refine Bk.far ?_ (by first | omega | (simp; done) | (simp; omega)) _))
  replace hb0 : Below w.heap.size w w3 := by subst hV; (repeat (first | with_reducible exact Below.refl _ _ | with_reducible assumption | with_reducible refine Below.drew ?_ | with_reducible refine Below.drewN ?_ _ | with_reducible refine Below.alloc1 ?_ _ | with_reducible refine Below.setCell1 ?_ (by first | omega | (simp; done) | (simp; omega)) _ | with_reducible refine Below.step ?_ (by with_reducible assumption)))
  have hs3 : w2.heap.size + 1 ≤ w3.heap.size := by subst hV; simp
  generalize w2.heap.size = S at *
  clear hV
  go_loopw [6, 15] (fun o i wr => ∃ (k : Nat) (x : (Int × Int × Int) × List Int), k ≤ l.length ∧ i = .int .i64 k ∧ Hid (vRun up dn hold (l.take k) = x) ∧ x.2.length = k ∧ (∃ A' c', o = .slice A' k c' ∧ wr.ownsRow (S + 1) 3 1 (.slice A' k c') k (x.2.map (Value.int .i64))) ∧
      Bk wr w.heap.size 28 (lcC up dn hold) ∧ Bk wr S 29 (lsC x.1.1 x.1.2.1 x.1.2.2) ∧ Below w.heap.size w wr ∧ S + 1 ≤ wr.heap.size) (fun _ i _ => l.length - (intOf i).toNat)
  case atStart => exact ⟨0, ((0, 0, -1), []), Nat.zero_le _, rfl, rfl, rfl, ⟨none, 0, rfl, World.ownsRow_nil _ _ _ _⟩, q0, q1, hb0, hs3⟩
  case round =>
    obtain ⟨k, x, hk, rfl, HX, hxl, ⟨A', c', rfl, hown⟩, j0, j1, hbr, hszr⟩ := hrel
    clear q0 q1 hb0 hs3
    by_cases hlt : k < l.length
    · obtain ⟨ad, rfl, hadb, hca⟩ := hA.at_ (k := k) (by simpa using hlt)
      have hc1 : wr.cell? (ad.add k) = some (.int .i64 l[k]) := by rw [hbr.cell (by rw [add_block]; exact hadb), hca]; simp
      have HN := hide (vRun_snoc up dn hold (l.take k) l[k])
      have HT := hide (take_snocL l k hlt)
      clear hca
      generalize l[k] = ld at *
      have j0_0 := j0.cell 0; have j0_f0 := j0.frozen 0; have j0_1 := j0.cell 1; have j0_f1 := j0.frozen 1; have j0_2 := j0.cell 2; have j0_f2 := j0.frozen 2; have j0_3 := j0.cell 3; have j0_f3 := j0.frozen 3; have j0_4 := j0.cell 4; have j0_f4 := j0.frozen 4; have j0_5 := j0.cell 5; have j0_f5 := j0.frozen 5; have j0_6 := j0.cell 6; have j0_f6 := j0.frozen 6; simp only [List.set_cons_zero, List.set_cons_succ, List.getElem?_cons_zero, List.getElem?_cons_succ] at j0_0 j0_1 j0_2 j0_3 j0_4 j0_5 j0_6
      have j1_0 := j1.cell 0; have j1_f0 := j1.frozen 0; have j1_1 := j1.cell 1; have j1_f1 := j1.frozen 1; have j1_2 := j1.cell 2; have j1_f2 := j1.frozen 2; simp only [List.set_cons_zero, List.set_cons_succ, List.getElem?_cons_zero, List.getElem?_cons_succ] at j1_0 j1_1 j1_2
      have lj := And.intro j0.lt j1.lt
      go_wp2_with fail
      obtain ⟨y, hy⟩ : ∃ y, vStep up dn hold x.1.1 x.1.2.1 x.1.2.2 ld (k + 1) = y := ⟨_, rfl⟩
      have HY := hide hy
      clear hy
      refine (level_Step_is HY.out _).mono ?_; rintro e w4 ⟨rfl, hb4⟩
      have p0 := j0.step hb4
      have p1 := j1.step hb4
      have own4 := own_below hown hb4 (Nat.le_refl _)
      have hb5 : Below w.heap.size w w4 := by (repeat (first | with_reducible exact Below.refl _ _ | with_reducible assumption | with_reducible refine Below.drew ?_ | with_reducible refine Below.drewN ?_ _ | with_reducible refine Below.alloc1 ?_ _ | with_reducible refine Below.setCell1 ?_ (by first | omega | (simp; done) | (simp; omega)) _ | with_reducible refine Below.step ?_ (by with_reducible assumption)))
      have hs4 := hb4.size
      clear j0_0 j0_1 j0_2 j0_3 j0_4 j0_5 j0_6 j0_f0 j0_f1 j0_f2 j0_f3 j0_f4 j0_f5 j0_f6 j1_0 j1_1 j1_2 j1_f0 j1_f1 j1_f2 hown j0 j1 hb4 hbr
      have p1_0 := p1.cell 0; have p1_f0 := p1.frozen 0; have p1_1 := p1.cell 1; have p1_f1 := p1.frozen 1; have p1_2 := p1.cell 2; have p1_f2 := p1.frozen 2; simp only [List.set_cons_zero, List.set_cons_succ, List.getElem?_cons_zero, List.getElem?_cons_succ] at p1_0 p1_1 p1_2
      go_wp2_with (at_builtin; refine wpList_app2 rfl (.tmp 26) (.tmp 29) 43 rfl (S + 1) 3 i0 _ 1 8 Try.underlying43 hi hz0 hz1 hz2 rfl ?c1 A' k c' (x.2.map (Value.int .i64)) rfl ?hown ⟨w4.heap.size, 0, none⟩ 1 1 [.int .i64 y.1] rfl rfl ?hn ?c2 ?c3 ?c4 ?c5 ?c6 ?_; rotate_right; intro g cap w5 hown5 hb6 hg6)
      case c1 => omega
      case hown => exact (own_far (own_far (own_far own4 (by dsimp only; omega) _) (by dsimp only; omega) _) (by dsimp only; omega) _).alloc _
      case hn => exact news_one (by simp [World.setCell])
      case c2 => intro u hu; simp at hu; subst hu; rfl
      case c3 => unfold maxLen; omega
      case c4 => omega
      case c5 => simp [World.setCell]; omega
      case c6 => omega
      have r0 : Bk w5 w.heap.size 28 (lcC up dn hold) := Bk.below ((((p0.far (by dsimp only; omega) _).far (by dsimp only; omega) _).far (by dsimp only; omega) _).alloc _) hb6 (by omega)
      have r1 : Bk w5 S 29 (lsC y.1 y.2.1 y.2.2) := Bk.below ((((p1.set_ 0 _).set_ 1 _).set_ 2 _).alloc _) hb6 (by omega)
      have hb7 : Below w.heap.size w w5 := by
        have h1 : Below w.heap.size w _ := (((hb5.setCell (p := ⟨S, 0, none⟩) (by dsimp only; omega) (.int .i64 y.1)).setCell (p := ⟨S, 1, none⟩) (by dsimp only; omega) (.int .i64 y.2.1)).setCell (p := ⟨S, 2, none⟩) (by dsimp only; omega) (.int .i64 y.2.2)).alloc1 (.cells #[.int .i64 y.1] 3)
        exact h1.trans (hb6.mono (by omega))
      have hs7 := hb6.size
      simp [World.setCell] at hs7
      have HXN : Hid (vRun up dn hold (l.take (k + 1)) = (y, x.2 ++ [y.1])) := by
        show _ = _
        rw [HT.out, HN.out, HX.out, hxl, HY.out]
      clear hb6 hg6 own4 p0 p1 hb5 HN HX HT HY
      go_roundw
      case rel =>
        refine ⟨k + 1, (y, x.2 ++ [y.1]), by omega, by go_num, HXN, by simp [hxl], ⟨_, _, rfl, ?_⟩, r0, r1, hb7, by omega⟩
        simpa using hown5
      case measure => simp [intOf]; omega
    · obtain rfl : k = l.length := by omega
      go_wp2_with fail
      go_ret
      have h := HX.out
      rw [List.take_of_length_le (Nat.le_refl _)] at h
      rw [← h] at hown
      exact ⟨A', c', rfl, own_rd hown, hbr⟩
end Go.Proofs.Ytbajakifkidccaa
