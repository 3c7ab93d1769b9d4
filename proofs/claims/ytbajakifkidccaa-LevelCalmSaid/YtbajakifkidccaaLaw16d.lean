/- The walk of LevelCalm. -/
import Derived.Test.YtbajakifkidccaaAwake16
import Derived.Test.YtbajakifkidccaaLaw16p
namespace Go.Proofs.Ytbajakifkidccaa
open Go.RowKit Go.Sort
set_option linter.unusedSimpArgs false
set_option linter.unusedVariables false

abbrev cup : Nat → Int := u3 50 75 90
abbrev cdn : Nat → Int := u3 40 60 80
theorem calm_check {H : Int} (h : 0 ≤ H ∧ H ≤ 20) : vCheck cup cdn H = 0 := by
  have h1 : vIn H 0 1000 = true := by simp [vIn]; omega
  have h2 : vLoads cup cdn = true := by decide +kernel
  have h3 : vOrder cup cdn = true := by decide +kernel
  unfold vCheck; rw [h1, h2, h3]; rfl
/-- what a state has all along, at tick T -/
structure Calm (H : Int) (T : Int) (x : Int × Int × Int) (l : Nat) : Prop where
  lev : x.1 = l
  top : l ≤ 3
  since : 0 ≤ x.2.1 ∧ x.2.1 ≤ T
  low : x.2.2 = -1 ∨ (1 ≤ x.2.2 ∧ x.2.2 ≤ T ∧ T - x.2.2 < H ∧ 0 < l)
/-- how many steps without load it is from 0, at most -/
def toCalm (H T : Int) (x : Int × Int × Int) : Int := x.1 * (H + 1) - (if x.2.2 = -1 then 0 else T - x.2.2 + 1)
theorem Calm.step {H T : Int} {x : Int × Int × Int} {l : Nat} (h : Calm H T x l) (hH : 0 ≤ H ∧ H ≤ 20) (hT : 0 ≤ T ∧ T < 1000) {load : Int} (hl : 0 ≤ load) :
    ∃ l', Calm H (T + 1) (vStep cup cdn H x.1 x.2.1 x.2.2 load (T + 1)) l' ∧ (load = 0 → 0 < l → toCalm H (T + 1) (vStep cup cdn H x.1 x.2.1 x.2.2 load (T + 1)) = toCalm H T x - 1) ∧ (load = 0 → l = 0 → l' = 0) ∧ (100 ≤ load → l' = 3) := by
  obtain ⟨a, s, v⟩ := x
  obtain ⟨h1, h2, h3, h4⟩ := h
  simp only at h1 h2 h3 h4 ⊢
  subst h1
  have hu0 : cup 0 = 50 := rfl
  have hu1 : cup 1 = 75 := rfl
  have hu2 : cup 2 = 90 := rfl
  have hd0 : cdn 0 = 40 := rfl
  have hd1 : cdn 1 = 60 := rfl
  have hd2 : cdn 2 = 80 := rfl
  have hl4 : l = 0 ∨ l = 1 ∨ l = 2 ∨ l = 3 := by omega
  rcases vStep_ways (s := s) (v := v) (n := min load 100) (calm_check hH) h2 h3 (by omega) (by omega) hl rfl with ⟨A, e, c1, c2, c3, c4⟩ | ⟨e, c1, c2⟩ | ⟨v', e, c1, c2, c3, c4, c5⟩ | ⟨v', e, c1, c2, c3, c4, c5⟩
  · rw [e]
    refine ⟨A, ⟨rfl, c2, by simp only; omega, .inl rfl⟩, fun h0 _ => ?_, fun h0 h0' => ?_, fun h0 => ?_⟩
    · rcases hl4 with rfl | rfl | rfl | rfl <;> omega
    · subst h0'; omega
    · have hA4 : A = 1 ∨ A = 2 ∨ A = 3 := by omega
      rcases hA4 with rfl | rfl | rfl
      · have := c4 (by omega); omega
      · have := c4 (by omega); omega
      · rfl
  · rw [e]
    refine ⟨l, ⟨rfl, h2, by simp only; omega, .inl rfl⟩, fun h0 hl0 => ?_, fun h0 h0' => h0', fun h0 => ?_⟩
    · rcases hl4 with rfl | rfl | rfl | rfl
      · omega
      · simp only [Nat.sub_self] at c1; omega
      · simp only [show 2 - 1 = 1 from rfl] at c1; omega
      · simp only [show 3 - 1 = 2 from rfl] at c1; omega
    · rcases hl4 with rfl | rfl | rfl | rfl
      · have := c2 (by omega); omega
      · have := c2 (by omega); omega
      · have := c2 (by omega); omega
      · rfl
  · rw [e]
    have hv' : v' = T + 1 ∨ v' = v := by split at c4 <;> omega
    refine ⟨l, ⟨rfl, h2, by simp only; omega, .inr ⟨by simp only; split at c4 <;> omega, by simp only; omega, by simp only; omega, c1⟩⟩, fun h0 hl0 => ?_, fun h0 h0' => h0', fun h0 => ?_⟩
    · unfold toCalm
      simp only
      by_cases hv : v = -1
      · rw [if_pos hv] at c4
        rw [if_pos hv, if_neg (by omega)]; omega
      · rw [if_neg hv] at c4
        rw [if_neg hv, if_neg (by omega)]; omega
    · rcases hl4 with rfl | rfl | rfl | rfl
      · omega
      · have := c3 (by omega); omega
      · have := c3 (by omega); omega
      · simp only [show 3 - 1 = 2 from rfl] at c2; omega
  · rw [e]
    refine ⟨l - 1, ⟨by simp only; omega, by omega, by simp only; omega, .inl rfl⟩, fun h0 hl0 => ?_, fun h0 h0' => by omega, fun h0 => ?_⟩
    · unfold toCalm
      simp only [if_true]
      have hm : (l : Int) * (H + 1) = (l - 1) * (H + 1) + (H + 1) := by
        have h := Int.add_mul ((l : Int) - 1) 1 (H + 1)
        rwa [Int.sub_add_cancel, Int.one_mul] at h
      by_cases hv : v = -1
      · rw [if_pos hv] at c4
        rw [if_pos hv]; omega
      · rw [if_neg hv] at c4
        rw [if_neg hv]; omega
    · rcases hl4 with rfl | rfl | rfl | rfl
      · omega
      · simp only [Nat.sub_self] at c3; omega
      · simp only [show 2 - 1 = 1 from rfl] at c3; omega
      · simp only [show 3 - 1 = 2 from rfl] at c3; omega
theorem Calm.need {H T : Int} {x : Int × Int × Int} {l : Nat} (h : Calm H T x l) (hH : 0 ≤ H) : toCalm H T x ≤ 3 * (H + 1) ∧ (0 < l → 1 ≤ toCalm H T x) := by
  obtain ⟨a, s, v⟩ := x
  obtain ⟨h1, h2, h3, h4⟩ := h
  simp only at h1 h2 h3 h4
  subst h1
  unfold toCalm
  simp only
  have hl4 : l = 0 ∨ l = 1 ∨ l = 2 ∨ l = 3 := by omega
  rcases hl4 with rfl | rfl | rfl | rfl <;> (split <;> refine ⟨by omega, fun _ => by omega⟩)
theorem aAllowsL {a b : Int} {v : Bool} (h : vAllows a b = v) (w : World) : Calls Try.prog 21 #[.int .i64 a, .int .i64 b] w fun e w' => e = .returned (.bool v) ∧ w = w' := by subst h; exact level_Allows_any a b w
set_option maxRecDepth 100000 in
set_option maxHeartbeats 8000000 in
theorem LevelCalm_walk (hold : Int) (hh : 0 ≤ hold ∧ hold ≤ 255) (A : Option Addr) (c : Nat) (l : List Int) (hl : l.length ≤ maxLen) (hlb : ∀ x ∈ l, 0 ≤ x ∧ x ≤ 255) (w : World) (hA : Rd w w.heap.size A (l.map (Value.int .u8))) :
    Calls Try.prog 6 #[.int .u8 hold, .slice A l.length c] w fun e w' => e = .returned (.bool true) ∧ Below w.heap.size w w' := by
  unfold maxLen at hl
  by_cases h60 : l.length ≤ 60
  · obtain ⟨H, hH0⟩ : ∃ H, hold % 21 = H := ⟨_, rfl⟩
    have hH : 0 ≤ H ∧ H ≤ 20 := by omega
    have HLB := hide hlb
    clear hlb
    go_enter Try.func6, Try.ntmps6
    go_wp2_with fail
    with_reducible refine (aUsual _).mono ?_; rintro e x0 ⟨rfl, hx0⟩
    go_wp2_with fail
    generalize hV : World.alloc x0 _ = w1
    have k0l : Bk w1 x0.heap.size 28 [.int .i64 50, .int .i64 75, .int .i64 90, .int .i64 40, .int .i64 60, .int .i64 80, .int .i64 H] := by subst hV; (repeat (first | with_reducible exact Bk.new' _ _ _ _ (by simp; done) | with_reducible assumption | with_reducible refine Bk.alloc ?_ _ | with_reducible refine Bk.drew ?_ | with_reducible refine Bk.drewN ?_ _ | with_reducible refine Bk.step ?_ (by with_reducible assumption) | with_reducible refine Bk.far ?_ (by first | omega | (simp; done) | (simp; omega)) _))
    have k0 : Bk w1 x0.heap.size 28 (lcC cup cdn H) := k0l
    clear k0l
    have hb1 : Below w.heap.size w w1 := by subst hV; (repeat (first | with_reducible exact Below.refl _ _ | with_reducible assumption | with_reducible refine Below.drew ?_ | with_reducible refine Below.drewN ?_ _ | with_reducible refine Below.alloc1 ?_ _ | with_reducible refine Below.setCell1 ?_ (by first | omega | (simp; done) | (simp; omega)) _ | with_reducible refine Below.step ?_ (by with_reducible assumption)))
    have hG := hx0.size
    generalize x0.heap.size = G at *
    clear hV hx0
    with_reducible refine (level_New_any _).mono ?_; rintro e x1 ⟨rfl, hx1⟩
    replace k0 := k0.step hx1
    replace hb1 : Below w.heap.size w x1 := by (repeat (first | with_reducible exact Below.refl _ _ | with_reducible assumption | with_reducible refine Below.drew ?_ | with_reducible refine Below.drewN ?_ _ | with_reducible refine Below.alloc1 ?_ _ | with_reducible refine Below.setCell1 ?_ (by first | omega | (simp; done) | (simp; omega)) _ | with_reducible refine Below.step ?_ (by with_reducible assumption)))
    clear hx1
    go_wp2_with fail
    generalize hV : World.alloc x1 _ = w2
    have k1 : Bk w2 x1.heap.size 29 (lsC 0 0 (-1)) := by subst hV; (repeat (first | with_reducible exact Bk.new' _ _ _ _ (by simp; done) | with_reducible assumption | with_reducible refine Bk.alloc ?_ _ | with_reducible refine Bk.drew ?_ | with_reducible refine Bk.drewN ?_ _ | with_reducible refine Bk.step ?_ (by with_reducible assumption) | with_reducible refine Bk.far ?_ (by first | omega | (simp; done) | (simp; omega)) _))
    have hGS : G < x1.heap.size := k0.lt
    replace k0 : Bk w2 G 28 (lcC cup cdn H) := by subst hV; (repeat (first | with_reducible exact Bk.new' _ _ _ _ (by simp; done) | with_reducible assumption | with_reducible refine Bk.alloc ?_ _ | with_reducible refine Bk.drew ?_ | with_reducible refine Bk.drewN ?_ _ | with_reducible refine Bk.step ?_ (by with_reducible assumption) | with_reducible refine Bk.far ?_ (by first | omega | (simp; done) | (simp; omega)) _))
    replace hb1 : Below w.heap.size w w2 := by subst hV; (repeat (first | with_reducible exact Below.refl _ _ | with_reducible assumption | with_reducible refine Below.drew ?_ | with_reducible refine Below.drewN ?_ _ | with_reducible refine Below.alloc1 ?_ _ | with_reducible refine Below.setCell1 ?_ (by first | omega | (simp; done) | (simp; omega)) _ | with_reducible refine Below.step ?_ (by with_reducible assumption)))
    generalize x1.heap.size = S at *
    clear hV
    go_loopw [7, 8] (fun o i wr => ∃ (k l' : Nat) (x : Int × Int × Int), k ≤ l.length ∧ i = .int .i64 k ∧ o = .int .i64 k ∧ Hid (Calm H k x l') ∧ Bk wr G 28 (lcC cup cdn H) ∧ Bk wr S 29 (lsC x.1 x.2.1 x.2.2) ∧ Below w.heap.size w wr) (fun _ i _ => l.length - (intOf i).toNat)
    case atStart => exact ⟨0, 0, (0, 0, -1), Nat.zero_le _, rfl, rfl, ⟨rfl, by omega, by simp, .inl rfl⟩, k0, k1, hb1⟩
    case round =>
      obtain ⟨k, l', x, hk, rfl, rfl, HC, j0, j1, hbr⟩ := hrel
      clear k0 k1 hb1
      by_cases hlt : k < l.length
      · obtain ⟨ad, rfl, hadb, hca⟩ := hA.at_ (k := k) (by simpa using hlt)
        have hc1 : wr.cell? (ad.add k) = some (.int .u8 l[k]) := by rw [hbr.cell (by rw [add_block]; exact hadb), hca]; simp
        have hg := HLB.out _ (List.getElem_mem hlt)
        have hadj : (ad.add k).block < wr.heap.size := by rw [add_block]; have := hbr.size; omega
        clear hca
        generalize l[k] = ld at *
        have hcg : ∀ (d : Nat) (os : Array Obj), (Go.Sort.grow (redrawn wr d) os).cell? (ad.add k) = some (.int .u8 ld) := fun d os => ((below_regrown wr d os).cell hadj).trans hc1
        obtain ⟨l2, HC2, _, _, _⟩ := HC.out.step hH (by omega) hg.1
        obtain ⟨y, hy⟩ : ∃ y, vStep cup cdn H x.1 x.2.1 x.2.2 ld (k + 1) = y := ⟨_, rfl⟩
        rw [hy] at HC2
        have HN := hide HC2
        have HY := hide hy
        have s1 : IntKind.i64.wrap ld = ld := IntWalk.i64_in _ (by omega)
        clear hy HC2
        have j0_0 := j0.cell 0; have j0_f0 := j0.frozen 0; have j0_1 := j0.cell 1; have j0_f1 := j0.frozen 1; have j0_2 := j0.cell 2; have j0_f2 := j0.frozen 2; have j0_3 := j0.cell 3; have j0_f3 := j0.frozen 3; have j0_4 := j0.cell 4; have j0_f4 := j0.frozen 4; have j0_5 := j0.cell 5; have j0_f5 := j0.frozen 5; have j0_6 := j0.cell 6; have j0_f6 := j0.frozen 6; simp only [List.set_cons_zero, List.set_cons_succ, List.getElem?_cons_zero, List.getElem?_cons_succ] at j0_0 j0_1 j0_2 j0_3 j0_4 j0_5 j0_6; have lt_j0 := j0.lt; have j1_0 := j1.cell 0; have j1_f0 := j1.frozen 0; have j1_1 := j1.cell 1; have j1_f1 := j1.frozen 1; have j1_2 := j1.cell 2; have j1_f2 := j1.frozen 2; simp only [List.set_cons_zero, List.set_cons_succ, List.getElem?_cons_zero, List.getElem?_cons_succ] at j1_0 j1_1 j1_2; have lt_j1 := j1.lt
        go_wp2_with fail
        refine wp_region_mt 9 [(8, only (lsV y.1 y.2.1 y.2.2))] (by kernel_rfl) (by kernel_rfl) (by kernel_rfl) (by kernel_rfl) (sts_cons (sts_only _) sts_nil) (fun kq => ?_); (try dsimp only [List.append, List.take])
        (repeat (refine wpM_via (by kernel_rfl) ?_; go_big_quiet_step (fail); refine wpQuiet_nil ?_))
        (refine wpM_only _ (lsV y.1 y.2.1 y.2.2) (by kernel_rfl) (by kernel_rfl) rfl (later_some _) ?_ ?_; (focus (intro x hx hk; obtain ⟨px, rfl⟩ := hx; go_simp; (first | with_reducible refine mUpon_enter ?_ | with_reducible refine mUpon_value ?_); go_at_call 7; exact (level_Step_is HY.out _).mo)); intro K hK; go_big_quiet_op; refine hK _ ?_; clear hK K)
        refine wpM_nil ?_; intro wq hwq hfq; have hbq := below_of_class hwq; clear hwq kq; (try dsimp only [List.drop])
        (try clear j0_0 j0_f0 j0_1 j0_f1 j0_2 j0_f2 j0_3 j0_f3 j0_4 j0_f4 j0_5 j0_f5 j0_6 j0_f6 lt_j0) ; (try clear j1_0 j1_f0 j1_1 j1_f1 j1_2 j1_f2 lt_j1)
        have p0 := j0.step hbq
        have p1 := j1.step hbq
        have p1_0 := p1.cell 0; have p1_f0 := p1.frozen 0; have p1_1 := p1.cell 1; have p1_f1 := p1.frozen 1; have p1_2 := p1.cell 2; have p1_f2 := p1.frozen 2; simp only [List.set_cons_zero, List.set_cons_succ, List.getElem?_cons_zero, List.getElem?_cons_succ] at p1_0 p1_1 p1_2; have lt_p1 := p1.lt
        go_wp2_with fail
        have r1 := ((p1.set_ 0 (.int .i64 y.1)).set_ 1 (.int .i64 y.2.1)).set_ 2 (.int .i64 y.2.2)
        simp only [List.set_cons_zero, List.set_cons_succ] at r1
        go_roundw
        case rel => exact ⟨k + 1, l2, y, by omega, by go_num, by go_num, HN.out, ((p0.far (by dsimp only; omega) _).far (by dsimp only; omega) _).far (by dsimp only; omega) _, r1, (((hbr.then_ hbq hbr.size).setCell (by dsimp only; omega) _).setCell (by dsimp only; omega) _).setCell (by dsimp only; omega) _⟩
        case measure => simp [intOf]; omega
      · obtain rfl : k = l.length := by omega
        obtain ⟨l3, HC3, _, _, h100⟩ := HC.out.step hH (by omega) (show (0 : Int) ≤ 100 by omega)
        obtain ⟨z, hz⟩ : ∃ z, vStep cup cdn H x.1 x.2.1 x.2.2 100 (l.length + 1) = z := ⟨_, rfl⟩
        rw [hz] at HC3
        have hz3 : z.1 = 3 := by rw [HC3.lev, h100 (by omega)]; rfl
        have HZ := hide hz
        clear hz HC3 h100
        have j0_0 := j0.cell 0; have j0_f0 := j0.frozen 0; have j0_1 := j0.cell 1; have j0_f1 := j0.frozen 1; have j0_2 := j0.cell 2; have j0_f2 := j0.frozen 2; have j0_3 := j0.cell 3; have j0_f3 := j0.frozen 3; have j0_4 := j0.cell 4; have j0_f4 := j0.frozen 4; have j0_5 := j0.cell 5; have j0_f5 := j0.frozen 5; have j0_6 := j0.cell 6; have j0_f6 := j0.frozen 6; simp only [List.set_cons_zero, List.set_cons_succ, List.getElem?_cons_zero, List.getElem?_cons_succ] at j0_0 j0_1 j0_2 j0_3 j0_4 j0_5 j0_6; have lt_j0 := j0.lt; have j1_0 := j1.cell 0; have j1_f0 := j1.frozen 0; have j1_1 := j1.cell 1; have j1_f1 := j1.frozen 1; have j1_2 := j1.cell 2; have j1_f2 := j1.frozen 2; simp only [List.set_cons_zero, List.set_cons_succ, List.getElem?_cons_zero, List.getElem?_cons_succ] at j1_0 j1_1 j1_2; have lt_j1 := j1.lt
        go_wp2_with fail
        with_reducible refine (level_Step_is HZ.out _).mono ?_; rintro e x4 ⟨rfl, hx4⟩
        have q0 := j0.step hx4
        have q1 := j1.step hx4
        have hbx : Below w.heap.size w x4 := hbr.then_ hx4 hbr.size
        (try clear j0_0 j0_f0 j0_1 j0_f1 j0_2 j0_f2 j0_3 j0_f3 j0_4 j0_f4 j0_5 j0_f5 j0_6 j0_f6 lt_j0) ; (try clear j1_0 j1_f0 j1_1 j1_f1 j1_2 j1_f2 lt_j1)
        clear j0 j1 hbr hx4 hlt hk
        have l0 := q0.lt
        have l1 := q1.lt
        rw [hz3]
        go_wp2_with fail
        generalize hV : World.alloc x4 _ = w5
        have kx : Bk w5 x4.heap.size 29 (lsC 3 z.2.1 z.2.2) := by subst hV; (repeat (first | with_reducible exact Bk.new' _ _ _ _ (by simp; done) | with_reducible assumption | with_reducible refine Bk.alloc ?_ _ | with_reducible refine Bk.drew ?_ | with_reducible refine Bk.drewN ?_ _ | with_reducible refine Bk.step ?_ (by with_reducible assumption) | with_reducible refine Bk.far ?_ (by first | omega | (simp; done) | (simp; omega)) _))
        replace q0 : Bk w5 G 28 (lcC cup cdn H) := by subst hV; (repeat (first | with_reducible exact Bk.new' _ _ _ _ (by simp; done) | with_reducible assumption | with_reducible refine Bk.alloc ?_ _ | with_reducible refine Bk.drew ?_ | with_reducible refine Bk.drewN ?_ _ | with_reducible refine Bk.step ?_ (by with_reducible assumption) | with_reducible refine Bk.far ?_ (by first | omega | (simp; done) | (simp; omega)) _))
        replace q1 : Bk w5 S 29 (lsC x.1 x.2.1 x.2.2) := by subst hV; (repeat (first | with_reducible exact Bk.new' _ _ _ _ (by simp; done) | with_reducible assumption | with_reducible refine Bk.alloc ?_ _ | with_reducible refine Bk.drew ?_ | with_reducible refine Bk.drewN ?_ _ | with_reducible refine Bk.step ?_ (by with_reducible assumption) | with_reducible refine Bk.far ?_ (by first | omega | (simp; done) | (simp; omega)) _))
        replace hbx : Below w.heap.size w w5 := by subst hV; (repeat (first | with_reducible exact Below.refl _ _ | with_reducible assumption | with_reducible refine Below.drew ?_ | with_reducible refine Below.drewN ?_ _ | with_reducible refine Below.alloc1 ?_ _ | with_reducible refine Below.setCell1 ?_ (by first | omega | (simp; done) | (simp; omega)) _ | with_reducible refine Below.step ?_ (by with_reducible assumption)))
        generalize x4.heap.size = X at *
        clear hV
        obtain ⟨wo, rfl⟩ : ∃ wo : World, wo = wr := ⟨_, rfl⟩
        have hneed := HC.out.need hH.1
        go_loopw [7, 10] (fun o i wr => ∃ (j l' : Nat) (y : Int × Int × Int), (j : Int) ≤ 3 * (H + 1) ∧ i = .int .i64 j ∧ o = .int .i64 (((l.length + j : Nat) : Int)) ∧ Hid (Calm H ((l.length + j : Nat) : Int) y l') ∧ Hid (l' = 0 ∨ toCalm H ((l.length + j : Nat) : Int) y ≤ 3 * (H + 1) - j) ∧ Bk wr G 28 (lcC cup cdn H) ∧ Bk wr S 29 (lsC y.1 y.2.1 y.2.2) ∧ Bk wr X 29 (lsC 3 z.2.1 z.2.2) ∧ Below w.heap.size w wr) (fun _ i _ => (3 * (H + 1)).toNat - (intOf i).toNat)
        case atStart => exact ⟨0, l', x, by omega, rfl, rfl, HC.out, .inr (by have := hneed.1; simpa using this), q0, q1, kx, hbx⟩
        case round =>
          obtain ⟨j, l4, y, hj, rfl, rfl, HC4, HD4, j0, j1, j2, hbr⟩ := hrel
          clear q0 q1 kx hbx
          have lj0 := j0.lt
          by_cases hjlt : (j : Int) < 3 * (H + 1)
          · obtain ⟨l5, HC5, hdec, hst, _⟩ := HC4.out.step hH (by omega) (show (0 : Int) ≤ 0 by omega)
            obtain ⟨u, hu⟩ : ∃ u, vStep cup cdn H y.1 y.2.1 y.2.2 0 (((l.length + j : Nat) : Int) + 1) = u := ⟨_, rfl⟩
            rw [hu] at HC5 hdec
            have hcast : ((l.length + j : Nat) : Int) + 1 = ((l.length + (j + 1) : Nat) : Int) := by omega
            have HD5 : Hid (l5 = 0 ∨ toCalm H ((l.length + (j + 1) : Nat) : Int) u ≤ 3 * (H + 1) - ((j + 1 : Nat) : Int)) := by
              show _ ∨ _
              rw [← hcast]
              rcases Nat.eq_zero_or_pos l4 with h0 | h0
              · exact .inl (hst rfl h0)
              · have := hdec rfl h0
                rcases HD4.out with h1 | h1
                · omega
                · right; omega
            have HC5' : Hid (Calm H ((l.length + (j + 1) : Nat) : Int) u l5) := by
              show Calm _ _ _ _
              rw [← hcast]; exact HC5
            have HU : Hid (vStep cup cdn H y.1 y.2.1 y.2.2 0 ((l.length : Int) + j + 1) = u) := by
              show _ = _
              rw [← hu]; congr 1
            clear hu HC5 hdec hst hcast
            have j0_0 := j0.cell 0; have j0_f0 := j0.frozen 0; have j0_1 := j0.cell 1; have j0_f1 := j0.frozen 1; have j0_2 := j0.cell 2; have j0_f2 := j0.frozen 2; have j0_3 := j0.cell 3; have j0_f3 := j0.frozen 3; have j0_4 := j0.cell 4; have j0_f4 := j0.frozen 4; have j0_5 := j0.cell 5; have j0_f5 := j0.frozen 5; have j0_6 := j0.cell 6; have j0_f6 := j0.frozen 6; simp only [List.set_cons_zero, List.set_cons_succ, List.getElem?_cons_zero, List.getElem?_cons_succ] at j0_0 j0_1 j0_2 j0_3 j0_4 j0_5 j0_6; have lt_j0 := j0.lt; have j1_0 := j1.cell 0; have j1_f0 := j1.frozen 0; have j1_1 := j1.cell 1; have j1_f1 := j1.frozen 1; have j1_2 := j1.cell 2; have j1_f2 := j1.frozen 2; simp only [List.set_cons_zero, List.set_cons_succ, List.getElem?_cons_zero, List.getElem?_cons_succ] at j1_0 j1_1 j1_2; have lt_j1 := j1.lt
            have lj2 := j2.lt
            go_wp2_with fail
            refine (level_Step_is HU.out _).mono ?_; rintro e x6 ⟨rfl, hx6⟩
            (try clear j0_0 j0_f0 j0_1 j0_f1 j0_2 j0_f2 j0_3 j0_f3 j0_4 j0_f4 j0_5 j0_f5 j0_6 j0_f6 lt_j0) ; (try clear j1_0 j1_f0 j1_1 j1_f1 j1_2 j1_f2 lt_j1)
            have p0 := j0.step hx6
            have p1 := j1.step hx6
            have p2 := j2.step hx6
            have hbx : Below w.heap.size w x6 := hbr.then_ hx6 hbr.size
            have p1_0 := p1.cell 0; have p1_f0 := p1.frozen 0; have p1_1 := p1.cell 1; have p1_f1 := p1.frozen 1; have p1_2 := p1.cell 2; have p1_f2 := p1.frozen 2; simp only [List.set_cons_zero, List.set_cons_succ, List.getElem?_cons_zero, List.getElem?_cons_succ] at p1_0 p1_1 p1_2; have lt_p1 := p1.lt
            go_wp2_with fail
            have r1 := ((p1.set_ 0 (.int .i64 u.1)).set_ 1 (.int .i64 u.2.1)).set_ 2 (.int .i64 u.2.2)
            simp only [List.set_cons_zero, List.set_cons_succ] at r1
            go_roundw
            case rel => exact ⟨j + 1, l5, u, by omega, by go_num, by simp; omega, HC5'.out, HD5.out, ((p0.far (by dsimp only; omega) _).far (by dsimp only; omega) _).far (by dsimp only; omega) _, r1, ((p2.far (by dsimp only; omega) _).far (by dsimp only; omega) _).far (by dsimp only; omega) _, ((hbx.setCell (by dsimp only; omega) _).setCell (by dsimp only; omega) _).setCell (by dsimp only; omega) _⟩
            case measure => simp [intOf]; omega
          · have hl0 : l4 = 0 := by
              rcases HD4.out with h1 | h1
              · exact h1
              · rcases Nat.eq_zero_or_pos l4 with h0 | h0
                · exact h0
                · have := (HC4.out.need hH.1).2 h0; omega
            have hy0 : y.1 = 0 := by rw [HC4.out.lev, hl0]; rfl
            rw [hy0] at j1
            clear hl0 hy0
            have j0_0 := j0.cell 0; have j0_f0 := j0.frozen 0; have j0_1 := j0.cell 1; have j0_f1 := j0.frozen 1; have j0_2 := j0.cell 2; have j0_f2 := j0.frozen 2; have j0_3 := j0.cell 3; have j0_f3 := j0.frozen 3; have j0_4 := j0.cell 4; have j0_f4 := j0.frozen 4; have j0_5 := j0.cell 5; have j0_f5 := j0.frozen 5; have j0_6 := j0.cell 6; have j0_f6 := j0.frozen 6; simp only [List.set_cons_zero, List.set_cons_succ, List.getElem?_cons_zero, List.getElem?_cons_succ] at j0_0 j0_1 j0_2 j0_3 j0_4 j0_5 j0_6; have lt_j0 := j0.lt; have j1_0 := j1.cell 0; have j1_f0 := j1.frozen 0; have j1_1 := j1.cell 1; have j1_f1 := j1.frozen 1; have j1_2 := j1.cell 2; have j1_f2 := j1.frozen 2; simp only [List.set_cons_zero, List.set_cons_succ, List.getElem?_cons_zero, List.getElem?_cons_succ] at j1_0 j1_1 j1_2; have lt_j1 := j1.lt; have j2_0 := j2.cell 0; have j2_f0 := j2.frozen 0; have j2_1 := j2.cell 1; have j2_f1 := j2.frozen 1; have j2_2 := j2.cell 2; have j2_f2 := j2.frozen 2; simp only [List.set_cons_zero, List.set_cons_succ, List.getElem?_cons_zero, List.getElem?_cons_succ] at j2_0 j2_1 j2_2; have lt_j2 := j2.lt
            go_wp2_with fail
            with_reducible refine (aAllowsL (a := 0) (b := 0) (v := true) (by decide +kernel) _).mono ?_; rintro e w' ⟨rfl, rfl⟩
            go_wp2_with fail
            with_reducible refine (aAllowsL (a := 3) (b := 0) (v := false) (by decide +kernel) _).mono ?_; rintro e w' ⟨rfl, rfl⟩
            go_wp2_with fail
            with_reducible refine (awake16 _).mono ?_; rintro e x8 ⟨rfl, hx8⟩
            go_wp2_with fail
            go_ret
            exact ⟨rfl, by (repeat (first | with_reducible exact Below.refl _ _ | with_reducible assumption | with_reducible refine Below.drew ?_ | with_reducible refine Below.drewN ?_ _ | with_reducible refine Below.alloc1 ?_ _ | with_reducible refine Below.setCell1 ?_ (by first | omega | (simp; done) | (simp; omega)) _ | with_reducible refine Below.step ?_ (by with_reducible assumption)))⟩
  · go_enter Try.func6, Try.ntmps6
    go_wp2_with (go_at_call 17; refine (awake16 _).mono ?_; rintro e x1 ⟨rfl, hx1⟩)
    go_ret
    exact ⟨rfl, by (repeat (first | with_reducible exact Below.refl _ _ | with_reducible assumption | with_reducible refine Below.drew ?_ | with_reducible refine Below.drewN ?_ _ | with_reducible refine Below.alloc1 ?_ _ | with_reducible refine Below.setCell1 ?_ (by first | omega | (simp; done) | (simp; omega)) _ | with_reducible refine Below.step ?_ (by with_reducible assumption)))⟩
end Go.Proofs.Ytbajakifkidccaa
