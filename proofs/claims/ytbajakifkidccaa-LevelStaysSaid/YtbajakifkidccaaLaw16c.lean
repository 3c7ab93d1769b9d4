/- The walk of LevelStays. -/
import Derived.Test.YtbajakifkidccaaAwake16
import Derived.Test.YtbajakifkidccaaLaw16p
import Derived.Deep.DeepCutAuto
namespace Go.Proofs.Ytbajakifkidccaa
open Go.RowKit Go.Sort
set_option linter.unusedSimpArgs false
set_option linter.unusedVariables false

/-- what a state, and the count beside it, have at tick T -/
structure Stay (T : Int) (x : Int × Int × Int) (l : Nat) (low : Int) : Prop where
  lev : x.1 = l
  top : l ≤ 3
  since : 0 ≤ x.2.1 ∧ x.2.1 ≤ T
  low : (low = 0 ∧ x.2.2 = -1) ∨ (1 ≤ low ∧ low ≤ T ∧ x.2.2 = T - low + 1)
theorem order_of {up dn : Nat → Int} {hold : Int} (h : vCheck up dn hold = 0) {l : Nat} (h0 : 0 < l) (h3 : l < 3) : dn (l - 1) ≤ up l := by
  have ho := (vCheck_t h).2
  simp only [vOrder, vOk2, Bool.and_eq_true, decide_eq_true_eq] at ho
  have h4 : l = 1 ∨ l = 2 := by omega
  rcases h4 with rfl | rfl
  · have a : dn 0 ≤ up 0 := ho.1.1.2
    have b : up 0 ≤ up 1 := ho.1.2.1.1
    simp only [Nat.sub_self]; omega
  · have a : dn 1 ≤ up 1 := ho.1.2.2
    have b : up 1 ≤ up 2 := ho.2.1.1
    simp only [show 2 - 1 = 1 from rfl]; omega
theorem min_ways {ld n : Int} (h : n = min ld 100) (h0 : 0 ≤ ld) : (0 ≤ n ∧ n ≤ 100) ∧ ((n = ld ∧ ld < 100) ∨ (n = 100 ∧ 100 ≤ ld)) := by omega
/-- one round: four ways -/
theorem stay_ways {up dn : Nat → Int} {hold : Int} {T : Int} {x : Int × Int × Int} {l : Nat} {low load n : Int} (hc : vCheck up dn hold = 0) (h : Stay T x l low) (hT0 : 0 ≤ T) (hT : T < 1000000) (hload : 0 ≤ load) (hn : n = min load 100) :
    (∃ A : Nat, vStep up dn hold x.1 x.2.1 x.2.2 load (T + 1) = ((A : Int), T + 1, -1) ∧ l < A ∧ A ≤ 3 ∧ up l ≤ n ∧ (A < 3 → n < up A) ∧ (l = 0 ∨ dn (l - 1) ≤ n) ∧ Stay (T + 1) ((A : Int), T + 1, -1) A 0) ∨
    (vStep up dn hold x.1 x.2.1 x.2.2 load (T + 1) = ((l : Int), x.2.1, -1) ∧ (l = 0 ∨ dn (l - 1) ≤ n) ∧ (l < 3 → n < up l) ∧ Stay (T + 1) ((l : Int), x.2.1, -1) l 0) ∨
    (∃ v', vStep up dn hold x.1 x.2.1 x.2.2 load (T + 1) = ((l : Int), x.2.1, v') ∧ 0 < l ∧ n < dn (l - 1) ∧ (l < 3 → n < up l) ∧ low + 1 ≤ hold ∧ (-1 ≤ v' ∧ v' ≤ T + 1) ∧ Stay (T + 1) ((l : Int), x.2.1, v') l (low + 1)) ∨
    (vStep up dn hold x.1 x.2.1 x.2.2 load (T + 1) = ((l : Int) - 1, T + 1, -1) ∧ 0 < l ∧ n < dn (l - 1) ∧ n < up (l - 1) ∧ hold < low + 1 ∧ Stay (T + 1) ((l : Int) - 1, T + 1, -1) (l - 1) 0) := by
  obtain ⟨a, s, v⟩ := x
  obtain ⟨h1, h2, h3, h4⟩ := h
  simp only at h1 h2 h3 h4 ⊢
  subst h1
  rcases vStep_ways (s := s) (v := v) (n := n) hc h2 h3 (by omega) hT hload hn with ⟨A, e, c1, c2, c3, c4⟩ | ⟨e, c1, c2⟩ | ⟨v', e, c1, c2, c3, c4, c5⟩ | ⟨v', e, c1, c2, c3, c4, c5⟩
  · left
    refine ⟨A, e, c1, c2, c3, c4, ?_, ⟨rfl, c2, by simp only; omega, .inl ⟨rfl, rfl⟩⟩⟩
    rcases Nat.eq_zero_or_pos l with h0 | h0
    · exact .inl h0
    · have := order_of hc h0 (by omega); right; omega
  · right; left
    exact ⟨e, c1, c2, ⟨rfl, h2, by simp only; omega, .inl ⟨rfl, rfl⟩⟩⟩
  · right; right; left
    have hv' : v' = T + 1 - low := by
      rcases h4 with ⟨a1, a2⟩ | ⟨a1, a2, a3⟩
      · rw [if_pos a2] at c4; omega
      · rw [if_neg (by omega)] at c4; omega
    have hlo : 0 ≤ low ∧ low ≤ T := by omega
    exact ⟨v', e, c1, c2, c3, by omega, by omega, ⟨rfl, h2, by simp only; omega, .inr ⟨by omega, by omega, by simp only; omega⟩⟩⟩
  · right; right; right
    have hv' : v' = T + 1 - low := by
      rcases h4 with ⟨a1, a2⟩ | ⟨a1, a2, a3⟩
      · rw [if_pos a2] at c4; omega
      · rw [if_neg (by omega)] at c4; omega
    exact ⟨e, c1, c2, c3, by omega, ⟨by simp only; omega, by omega, by simp only; omega, .inl ⟨rfl, rfl⟩⟩⟩

set_option maxRecDepth 100000 in
set_option maxHeartbeats 16000000 in
theorem LevelStays_walk (up dn : Nat → Int) (hold : Int) (A : Option Addr) (c : Nat) (l : List Int) (hl : l.length ≤ maxLen) (hlb : ∀ x ∈ l, 0 ≤ x ∧ x ≤ 255) (w : World) (hA : Rd w w.heap.size A (l.map (Value.int .u8))) :
    Calls Try.prog 5 #[lcV up dn hold, .slice A l.length c] w fun e w' => e = .returned (.bool true) ∧ Below w.heap.size w w' := by
  unfold maxLen at hl
  by_cases h100 : l.length ≤ 100
  · have hv := vCheck_cases up dn hold
    by_cases h0 : vCheck up dn hold = 0
    · have HLB := hide hlb
      have H0 := hide h0
      have hho := (vCheck_t h0).1.2
      have hlds := (vCheck_t h0).1.1
      have HLV : Hid (∀ k, k < 3 → (0 ≤ up k ∧ up k ≤ 100) ∧ 0 ≤ dn k ∧ dn k ≤ 100) := fun k hk => vLoads_of hlds hk
      clear hlb h0 hv hlds
      go_enter Try.func5, Try.ntmps5
      go_wp2_with fail
      generalize hV : World.alloc (World.alloc w _) _ = w1
      have hb1 : Below w.heap.size w w1 := by subst hV; (repeat (first | with_reducible exact Below.refl _ _ | with_reducible assumption | with_reducible refine Below.drew ?_ | with_reducible refine Below.drewN ?_ _ | with_reducible refine Below.alloc1 ?_ _ | with_reducible refine Below.setCell1 ?_ (by first | omega | (simp; done) | (simp; omega)) _ | with_reducible refine Below.step ?_ (by with_reducible assumption)))
      have k0 : Bk w1 (w.heap.size + 1) 28 (lcC up dn hold) := by subst hV; (repeat (first | with_reducible exact Bk.new' _ _ _ _ (by simp; done) | with_reducible assumption | with_reducible refine Bk.alloc ?_ _ | with_reducible refine Bk.drew ?_ | with_reducible refine Bk.drewN ?_ _ | with_reducible refine Bk.step ?_ (by with_reducible assumption) | with_reducible refine Bk.far ?_ (by first | omega | (simp; done) | (simp; omega)) _))
      have hG : w.heap.size ≤ w.heap.size + 1 := by omega
      generalize w.heap.size + 1 = G at *
      clear hV
      with_reducible refine (level_Check_is H0.out _).mono ?_; rintro e x0 ⟨rfl, hx0⟩
      replace k0 := k0.step hx0
      replace hb1 : Below w.heap.size w x0 := by (repeat (first | with_reducible exact Below.refl _ _ | with_reducible assumption | with_reducible refine Below.drew ?_ | with_reducible refine Below.drewN ?_ _ | with_reducible refine Below.alloc1 ?_ _ | with_reducible refine Below.setCell1 ?_ (by first | omega | (simp; done) | (simp; omega)) _ | with_reducible refine Below.step ?_ (by with_reducible assumption)))
      clear hx0
      go_wp2_with fail
      with_reducible refine (level_New_any _).mono ?_; rintro e x1 ⟨rfl, hx1⟩
      replace k0 := k0.step hx1
      replace hb1 : Below w.heap.size w x1 := by (repeat (first | with_reducible exact Below.refl _ _ | with_reducible assumption | with_reducible refine Below.drew ?_ | with_reducible refine Below.drewN ?_ _ | with_reducible refine Below.alloc1 ?_ _ | with_reducible refine Below.setCell1 ?_ (by first | omega | (simp; done) | (simp; omega)) _ | with_reducible refine Below.step ?_ (by with_reducible assumption)))
      clear hx1
      go_wp2_with fail
      generalize hV : World.alloc x1 _ = w2
      have k1 : Bk w2 x1.heap.size 29 (lsC 0 0 (-1)) := by subst hV; (repeat (first | with_reducible exact Bk.new' _ _ _ _ (by simp; done) | with_reducible assumption | with_reducible refine Bk.alloc ?_ _ | with_reducible refine Bk.drew ?_ | with_reducible refine Bk.drewN ?_ _ | with_reducible refine Bk.step ?_ (by with_reducible assumption) | with_reducible refine Bk.far ?_ (by first | omega | (simp; done) | (simp; omega)) _))
      have hGS : G < x1.heap.size := k0.lt
      replace k0 : Bk w2 G 28 (lcC up dn hold) := by subst hV; (repeat (first | with_reducible exact Bk.new' _ _ _ _ (by simp; done) | with_reducible assumption | with_reducible refine Bk.alloc ?_ _ | with_reducible refine Bk.drew ?_ | with_reducible refine Bk.drewN ?_ _ | with_reducible refine Bk.step ?_ (by with_reducible assumption) | with_reducible refine Bk.far ?_ (by first | omega | (simp; done) | (simp; omega)) _))
      replace hb1 : Below w.heap.size w w2 := by subst hV; (repeat (first | with_reducible exact Below.refl _ _ | with_reducible assumption | with_reducible refine Below.drew ?_ | with_reducible refine Below.drewN ?_ _ | with_reducible refine Below.alloc1 ?_ _ | with_reducible refine Below.setCell1 ?_ (by first | omega | (simp; done) | (simp; omega)) _ | with_reducible refine Below.step ?_ (by with_reducible assumption)))
      generalize x1.heap.size = S at *
      clear hV
      go_loopw [7, 8] (fun o i wr => ∃ (k l' : Nat) (low : Int) (x : Int × Int × Int), k ≤ l.length ∧ i = .int .i64 k ∧ o = .int .i64 low ∧ Hid (Stay k x l' low) ∧ Bk wr G 28 (lcC up dn hold) ∧ Bk wr S 29 (lsC x.1 x.2.1 x.2.2) ∧ Below w.heap.size w wr) (fun _ i _ => l.length - (intOf i).toNat)
      case atStart => exact ⟨0, 0, 0, (0, 0, -1), Nat.zero_le _, rfl, rfl, ⟨rfl, by omega, by simp, .inl ⟨rfl, rfl⟩⟩, k0, k1, hb1⟩
      case round =>
        obtain ⟨k, L, low, x, hk, rfl, rfl, HC, j0, j1, hbr⟩ := hrel
        clear k0 k1 hb1
        by_cases hlt : k < l.length
        · obtain ⟨ad, rfl, hadb, hca⟩ := hA.at_ (k := k) (by simpa using hlt)
          have hc1 : wr.cell? (ad.add k) = some (.int .u8 l[k]) := by rw [hbr.cell (by rw [add_block]; exact hadb), hca]; simp
          have hg := HLB.out _ (List.getElem_mem hlt)
          have hadj : (ad.add k).block < wr.heap.size := by rw [add_block]; have := hbr.size; omega
          clear hca
          generalize l[k] = ld at *
          have hcg : ∀ (d : Nat) (os : Array Obj), (Go.Sort.grow (redrawn wr d) os).cell? (ad.add k) = some (.int .u8 ld) := fun d os => ((below_regrown wr d os).cell hadj).trans hc1
          have hST := HC.out
          have hlow : 0 ≤ low ∧ low ≤ k := by have := hST.low; omega
          have hLt := hST.top
          have hLx := hST.lev
          have hsn := hST.since
          obtain ⟨a, s, v⟩ := x
          simp only at hLx hsn
          subst hLx
          have S1 : Hid (IntKind.i64.wrap ld = ld) := IntWalk.i64_in _ (by omega)
          have S2 : Hid (IntKind.i64.wrap ((k : Int) + 1) = (k : Int) + 1) := IntWalk.i64_in _ (by omega)
          obtain ⟨n, hn⟩ : ∃ n, n = min ld 100 := ⟨_, rfl⟩
          have hways := stay_ways H0.out hST (by omega) (by omega) hg.1 hn
          obtain ⟨hn0, hnn⟩ := min_ways hn hg.1
          clear hST hn HC
          have HW := hide hways
          clear hways
          simp only at j1
          have j0_0 := j0.cell 0; have j0_f0 := j0.frozen 0; have j0_1 := j0.cell 1; have j0_f1 := j0.frozen 1; have j0_2 := j0.cell 2; have j0_f2 := j0.frozen 2; have j0_3 := j0.cell 3; have j0_f3 := j0.frozen 3; have j0_4 := j0.cell 4; have j0_f4 := j0.frozen 4; have j0_5 := j0.cell 5; have j0_f5 := j0.frozen 5; have j0_6 := j0.cell 6; have j0_f6 := j0.frozen 6; simp only [List.set_cons_zero, List.set_cons_succ, List.getElem?_cons_zero, List.getElem?_cons_succ] at j0_0 j0_1 j0_2 j0_3 j0_4 j0_5 j0_6; have lt_j0 := j0.lt; have j1_0 := j1.cell 0; have j1_f0 := j1.frozen 0; have j1_1 := j1.cell 1; have j1_f1 := j1.frozen 1; have j1_2 := j1.cell 2; have j1_f2 := j1.frozen 2; simp only [List.set_cons_zero, List.set_cons_succ, List.getElem?_cons_zero, List.getElem?_cons_succ] at j1_0 j1_1 j1_2; have lt_j1 := j1.lt
          rcases hnn with ⟨rfl, hnn⟩ | ⟨rfl, hnn⟩
          ·
            rcases HW.out with ⟨B, e, c1, c2, c3, c4, c5, hS⟩ | ⟨e, c1, c2, hS⟩ | ⟨v', e, c1, c2, c3, c4, c5, hS⟩ | ⟨e, c1, c2, c3, c4, hS⟩
            · as_aux_lemma =>
              have HE := hide e
              have HS := hide hS
              clear HW e hS
              go_wp2_with fail
              have s1 := S1.out
              have s2 := S2.out
              refine wp_region_mt 11 [(9, only (lsV ((B : Int)) ((k : Int) + 1) (-1))), (10, NewBk wr.heap.size 29 (lsC 0 0 0))] (by kernel_rfl) (by kernel_rfl) (by kernel_rfl) (by kernel_rfl) (sts_cons (sts_only _) (sts_cons (sts_newBk _ _ _) sts_nil)) (fun kq => ?_); (try dsimp only [List.append, List.take])
              (repeat (refine wpM_via (by kernel_rfl) ?_; go_big_quiet_step (fail); refine wpQuiet_nil ?_))
              (refine wpM_only _ (lsV ((B : Int)) ((k : Int) + 1) (-1)) (by kernel_rfl) (by kernel_rfl) rfl (later_some _) ?_ ?_; (focus (intro x hx hk; obtain ⟨px, rfl⟩ := hx; go_simp; (first | with_reducible refine mUpon_enter ?_ | with_reducible refine mUpon_value ?_); go_at_call 7; exact (level_Step_is HE.out _).mo)); intro K hK; go_big_quiet_op; refine hK _ ?_; clear hK K)
              (refine wpM_spec _ (NewBk wr.heap.size 29 (lsC 0 0 0)) (by kernel_rfl) (by kernel_rfl) rfl (later_some _) ?_ ?_; (focus (intro x hx hk; obtain ⟨px, rfl⟩ := hx; go_simp; (first | with_reducible refine mUpon_enter ?_ | with_reducible refine mUpon_value ?_); exact newBk_new (by simp [Go.Sort.grow]) rfl (by simp [Go.Sort.grow, redrawn]))); intro v hv K hK; obtain ⟨X, rfl, hX⟩ := hv; go_big_quiet_op; refine hK _ ?_; clear hK K)
              refine wpM_nil ?_; intro wq hwq hfq; have hbq := below_of_class hwq; clear hwq kq; (try dsimp only [List.drop])
              clear s1 s2
              have kX : Bk wq X 29 (lsC 0 0 0) := newBk_of (base := wr.heap.size) hfq.1
              (try clear j0_0 j0_f0 j0_1 j0_f1 j0_2 j0_f2 j0_3 j0_f3 j0_4 j0_f4 j0_5 j0_f5 j0_6 j0_f6 lt_j0) ; (try clear j1_0 j1_f0 j1_1 j1_f1 j1_2 j1_f2 lt_j1)
              have p0 := j0.step hbq
              have p1 := j1.step hbq
              have hbw : Below w.heap.size w wq := hbr.then_ hbq hbr.size
              have hXG : G < X ∧ S < X := by have := j0.lt; have := j1.lt; omega
              clear hfq hbq
              have kX_0 := kX.cell 0; have kX_f0 := kX.frozen 0; have kX_1 := kX.cell 1; have kX_f1 := kX.frozen 1; have kX_2 := kX.cell 2; have kX_f2 := kX.frozen 2; simp only [List.set_cons_zero, List.set_cons_succ, List.getElem?_cons_zero, List.getElem?_cons_succ] at kX_0 kX_1 kX_2; have lt_kX := kX.lt; have p0_0 := p0.cell 0; have p0_f0 := p0.frozen 0; have p0_1 := p0.cell 1; have p0_f1 := p0.frozen 1; have p0_2 := p0.cell 2; have p0_f2 := p0.frozen 2; have p0_3 := p0.cell 3; have p0_f3 := p0.frozen 3; have p0_4 := p0.cell 4; have p0_f4 := p0.frozen 4; have p0_5 := p0.cell 5; have p0_f5 := p0.frozen 5; have p0_6 := p0.cell 6; have p0_f6 := p0.frozen 6; simp only [List.set_cons_zero, List.set_cons_succ, List.getElem?_cons_zero, List.getElem?_cons_succ] at p0_0 p0_1 p0_2 p0_3 p0_4 p0_5 p0_6; have lt_p0 := p0.lt; have p1_0 := p1.cell 0; have p1_f0 := p1.frozen 0; have p1_1 := p1.cell 1; have p1_f1 := p1.frozen 1; have p1_2 := p1.cell 2; have p1_f2 := p1.frozen 2; simp only [List.set_cons_zero, List.set_cons_succ, List.getElem?_cons_zero, List.getElem?_cons_succ] at p1_0 p1_1 p1_2; have lt_p1 := p1.lt
              go_wp2_with fail
              generalize hV : World.setCell (World.setCell (World.setCell wq _ _) _ _) _ _ = w5
              have q2 : Bk w5 X 29 (lsC ((B : Int)) ((k : Int) + 1) (-1)) := by subst hV; exact ((kX.set_ 0 _).set_ 1 _).set_ 2 _
              have q0 : Bk w5 G 28 (lcC up dn hold) := by subst hV; exact ((p0.far (by dsimp only; omega) _).far (by dsimp only; omega) _).far (by dsimp only; omega) _
              have q1 : Bk w5 S 29 (lsC L s v) := by subst hV; exact ((p1.far (by dsimp only; omega) _).far (by dsimp only; omega) _).far (by dsimp only; omega) _
              have hbw5 : Below w.heap.size w w5 := by subst hV; exact ((hbw.setCell (by dsimp only; omega) _).setCell (by dsimp only; omega) _).setCell (by dsimp only; omega) _
              (try clear kX_0 kX_f0 kX_1 kX_f1 kX_2 kX_f2 lt_kX) ; (try clear p0_0 p0_f0 p0_1 p0_f1 p0_2 p0_f2 p0_3 p0_f3 p0_4 p0_f4 p0_5 p0_f5 p0_6 p0_f6 lt_p0) ; (try clear p1_0 p1_f0 p1_1 p1_f1 p1_2 p1_f2 lt_p1)
              clear hV kX p0 p1 hbw
              have hfin : Hid (vFine ((B : Int)) ((k : Int) + 1) (-1) = true) := vFine_mk (by omega) (by omega) (by omega)
              with_reducible refine (level_Fine_is hfin.out _).mono ?_; rintro e x6 ⟨rfl, hx6⟩
              replace q0 := q0.step hx6
              replace q1 := q1.step hx6
              replace q2 := q2.step hx6
              have hbw6 : Below w.heap.size w x6 := hbw5.then_ hx6 hbw5.size
              clear hx6 hbw5
              have q0_0 := q0.cell 0; have q0_f0 := q0.frozen 0; have q0_1 := q0.cell 1; have q0_f1 := q0.frozen 1; have q0_2 := q0.cell 2; have q0_f2 := q0.frozen 2; have q0_3 := q0.cell 3; have q0_f3 := q0.frozen 3; have q0_4 := q0.cell 4; have q0_f4 := q0.frozen 4; have q0_5 := q0.cell 5; have q0_f5 := q0.frozen 5; have q0_6 := q0.cell 6; have q0_f6 := q0.frozen 6; simp only [List.set_cons_zero, List.set_cons_succ, List.getElem?_cons_zero, List.getElem?_cons_succ] at q0_0 q0_1 q0_2 q0_3 q0_4 q0_5 q0_6; have lt_q0 := q0.lt; have q1_0 := q1.cell 0; have q1_f0 := q1.frozen 0; have q1_1 := q1.cell 1; have q1_f1 := q1.frozen 1; have q1_2 := q1.cell 2; have q1_f2 := q1.frozen 2; simp only [List.set_cons_zero, List.set_cons_succ, List.getElem?_cons_zero, List.getElem?_cons_succ] at q1_0 q1_1 q1_2; have lt_q1 := q1.lt; have q2_0 := q2.cell 0; have q2_f0 := q2.frozen 0; have q2_1 := q2.cell 1; have q2_f1 := q2.frozen 1; have q2_2 := q2.cell 2; have q2_f2 := q2.frozen 2; simp only [List.set_cons_zero, List.set_cons_succ, List.getElem?_cons_zero, List.getElem?_cons_succ] at q2_0 q2_1 q2_2; have lt_q2 := q2.lt
              have d1 : decide ((B : Int) < (L : Int)) = false := by simp; omega
              have d4 : decide ((L : Int) < (B : Int)) = true := by simp; omega
              have d5 : decide (n < up L) = false := by simp; omega
              have d7 : ((B : Int) == (L : Int)) = false := by rw [beq_eq_false_iff_ne]; omega
              have cB := fun h : B < 3 => up_cell q0 (k := B) h
              have cL := up_cell q0 (k := L) (by omega)
              rcases Nat.eq_zero_or_pos L with hL0 | hL0
              · subst hL0
                have z1 : x6.cell? ⟨S, 0, none⟩ = some (.int .i64 0) := q1_0
                clear q1_0
                by_cases hB3 : B < 3
                · have cB' := cB hB3
                  have c4' := c4 hB3
                  clear cB c4
                  go_upto_region 16 with fail
                  dsimp only [List.append]
                  go_wp2_with fail
                  have r1 := ((q1.set_ 0 (.int .i64 ((B : Int)))).set_ 1 (.int .i64 ((k : Int) + 1))).set_ 2 (.int .i64 (-1))
                  simp only [List.set_cons_zero, List.set_cons_succ] at r1
                  go_roundw
                  case rel => exact ⟨k + 1, B, 0, (((B : Int)), ((k : Int) + 1), (-1)), by omega, by go_num, rfl, HS.out, ((q0.far (by dsimp only; omega) _).far (by dsimp only; omega) _).far (by dsimp only; omega) _, r1, ((hbw6.setCell (by dsimp only; omega) _).setCell (by dsimp only; omega) _).setCell (by dsimp only; omega) _⟩
                  case measure => simp [intOf]; omega
                · clear cB c4
                  go_upto_region 16 with fail
                  dsimp only [List.append]
                  go_wp2_with fail
                  have r1 := ((q1.set_ 0 (.int .i64 ((B : Int)))).set_ 1 (.int .i64 ((k : Int) + 1))).set_ 2 (.int .i64 (-1))
                  simp only [List.set_cons_zero, List.set_cons_succ] at r1
                  go_roundw
                  case rel => exact ⟨k + 1, B, 0, (((B : Int)), ((k : Int) + 1), (-1)), by omega, by go_num, rfl, HS.out, ((q0.far (by dsimp only; omega) _).far (by dsimp only; omega) _).far (by dsimp only; omega) _, r1, ((hbw6.setCell (by dsimp only; omega) _).setCell (by dsimp only; omega) _).setCell (by dsimp only; omega) _⟩
                  case measure => simp [intOf]; omega
              · obtain ⟨i, rfl⟩ : ∃ i, L = i + 1 := ⟨L - 1, by omega⟩
                have cD := dn_cell q0 (k := i) (by omega)
                have c5' : dn i ≤ n := by simpa using c5
                clear c5
                by_cases hB3 : B < 3
                · have cB' := cB hB3
                  have c4' := c4 hB3
                  clear cB c4
                  go_upto_region 16 with fail
                  dsimp only [List.append]
                  go_wp2_with fail
                  have r1 := ((q1.set_ 0 (.int .i64 ((B : Int)))).set_ 1 (.int .i64 ((k : Int) + 1))).set_ 2 (.int .i64 (-1))
                  simp only [List.set_cons_zero, List.set_cons_succ] at r1
                  go_roundw
                  case rel => exact ⟨k + 1, B, 0, (((B : Int)), ((k : Int) + 1), (-1)), by omega, by go_num, rfl, HS.out, ((q0.far (by dsimp only; omega) _).far (by dsimp only; omega) _).far (by dsimp only; omega) _, r1, ((hbw6.setCell (by dsimp only; omega) _).setCell (by dsimp only; omega) _).setCell (by dsimp only; omega) _⟩
                  case measure => simp [intOf]; omega
                · clear cB c4
                  go_upto_region 16 with fail
                  dsimp only [List.append]
                  go_wp2_with fail
                  have r1 := ((q1.set_ 0 (.int .i64 ((B : Int)))).set_ 1 (.int .i64 ((k : Int) + 1))).set_ 2 (.int .i64 (-1))
                  simp only [List.set_cons_zero, List.set_cons_succ] at r1
                  go_roundw
                  case rel => exact ⟨k + 1, B, 0, (((B : Int)), ((k : Int) + 1), (-1)), by omega, by go_num, rfl, HS.out, ((q0.far (by dsimp only; omega) _).far (by dsimp only; omega) _).far (by dsimp only; omega) _, r1, ((hbw6.setCell (by dsimp only; omega) _).setCell (by dsimp only; omega) _).setCell (by dsimp only; omega) _⟩
                  case measure => simp [intOf]; omega
            · as_aux_lemma =>
              have HE := hide e
              have HS := hide hS
              clear HW e hS
              go_wp2_with fail
              have s1 := S1.out
              have s2 := S2.out
              refine wp_region_mt 11 [(9, only (lsV ((L : Int)) (s) (-1))), (10, NewBk wr.heap.size 29 (lsC 0 0 0))] (by kernel_rfl) (by kernel_rfl) (by kernel_rfl) (by kernel_rfl) (sts_cons (sts_only _) (sts_cons (sts_newBk _ _ _) sts_nil)) (fun kq => ?_); (try dsimp only [List.append, List.take])
              (repeat (refine wpM_via (by kernel_rfl) ?_; go_big_quiet_step (fail); refine wpQuiet_nil ?_))
              (refine wpM_only _ (lsV ((L : Int)) (s) (-1)) (by kernel_rfl) (by kernel_rfl) rfl (later_some _) ?_ ?_; (focus (intro x hx hk; obtain ⟨px, rfl⟩ := hx; go_simp; (first | with_reducible refine mUpon_enter ?_ | with_reducible refine mUpon_value ?_); go_at_call 7; exact (level_Step_is HE.out _).mo)); intro K hK; go_big_quiet_op; refine hK _ ?_; clear hK K)
              (refine wpM_spec _ (NewBk wr.heap.size 29 (lsC 0 0 0)) (by kernel_rfl) (by kernel_rfl) rfl (later_some _) ?_ ?_; (focus (intro x hx hk; obtain ⟨px, rfl⟩ := hx; go_simp; (first | with_reducible refine mUpon_enter ?_ | with_reducible refine mUpon_value ?_); exact newBk_new (by simp [Go.Sort.grow]) rfl (by simp [Go.Sort.grow, redrawn]))); intro v hv K hK; obtain ⟨X, rfl, hX⟩ := hv; go_big_quiet_op; refine hK _ ?_; clear hK K)
              refine wpM_nil ?_; intro wq hwq hfq; have hbq := below_of_class hwq; clear hwq kq; (try dsimp only [List.drop])
              clear s1 s2
              have kX : Bk wq X 29 (lsC 0 0 0) := newBk_of (base := wr.heap.size) hfq.1
              (try clear j0_0 j0_f0 j0_1 j0_f1 j0_2 j0_f2 j0_3 j0_f3 j0_4 j0_f4 j0_5 j0_f5 j0_6 j0_f6 lt_j0) ; (try clear j1_0 j1_f0 j1_1 j1_f1 j1_2 j1_f2 lt_j1)
              have p0 := j0.step hbq
              have p1 := j1.step hbq
              have hbw : Below w.heap.size w wq := hbr.then_ hbq hbr.size
              have hXG : G < X ∧ S < X := by have := j0.lt; have := j1.lt; omega
              clear hfq hbq
              have kX_0 := kX.cell 0; have kX_f0 := kX.frozen 0; have kX_1 := kX.cell 1; have kX_f1 := kX.frozen 1; have kX_2 := kX.cell 2; have kX_f2 := kX.frozen 2; simp only [List.set_cons_zero, List.set_cons_succ, List.getElem?_cons_zero, List.getElem?_cons_succ] at kX_0 kX_1 kX_2; have lt_kX := kX.lt; have p0_0 := p0.cell 0; have p0_f0 := p0.frozen 0; have p0_1 := p0.cell 1; have p0_f1 := p0.frozen 1; have p0_2 := p0.cell 2; have p0_f2 := p0.frozen 2; have p0_3 := p0.cell 3; have p0_f3 := p0.frozen 3; have p0_4 := p0.cell 4; have p0_f4 := p0.frozen 4; have p0_5 := p0.cell 5; have p0_f5 := p0.frozen 5; have p0_6 := p0.cell 6; have p0_f6 := p0.frozen 6; simp only [List.set_cons_zero, List.set_cons_succ, List.getElem?_cons_zero, List.getElem?_cons_succ] at p0_0 p0_1 p0_2 p0_3 p0_4 p0_5 p0_6; have lt_p0 := p0.lt; have p1_0 := p1.cell 0; have p1_f0 := p1.frozen 0; have p1_1 := p1.cell 1; have p1_f1 := p1.frozen 1; have p1_2 := p1.cell 2; have p1_f2 := p1.frozen 2; simp only [List.set_cons_zero, List.set_cons_succ, List.getElem?_cons_zero, List.getElem?_cons_succ] at p1_0 p1_1 p1_2; have lt_p1 := p1.lt
              go_wp2_with fail
              generalize hV : World.setCell (World.setCell (World.setCell wq _ _) _ _) _ _ = w5
              have q2 : Bk w5 X 29 (lsC ((L : Int)) (s) (-1)) := by subst hV; exact ((kX.set_ 0 _).set_ 1 _).set_ 2 _
              have q0 : Bk w5 G 28 (lcC up dn hold) := by subst hV; exact ((p0.far (by dsimp only; omega) _).far (by dsimp only; omega) _).far (by dsimp only; omega) _
              have q1 : Bk w5 S 29 (lsC L s v) := by subst hV; exact ((p1.far (by dsimp only; omega) _).far (by dsimp only; omega) _).far (by dsimp only; omega) _
              have hbw5 : Below w.heap.size w w5 := by subst hV; exact ((hbw.setCell (by dsimp only; omega) _).setCell (by dsimp only; omega) _).setCell (by dsimp only; omega) _
              (try clear kX_0 kX_f0 kX_1 kX_f1 kX_2 kX_f2 lt_kX) ; (try clear p0_0 p0_f0 p0_1 p0_f1 p0_2 p0_f2 p0_3 p0_f3 p0_4 p0_f4 p0_5 p0_f5 p0_6 p0_f6 lt_p0) ; (try clear p1_0 p1_f0 p1_1 p1_f1 p1_2 p1_f2 lt_p1)
              clear hV kX p0 p1 hbw
              have hfin : Hid (vFine ((L : Int)) (s) (-1) = true) := vFine_mk (by omega) (by omega) (by omega)
              with_reducible refine (level_Fine_is hfin.out _).mono ?_; rintro e x6 ⟨rfl, hx6⟩
              replace q0 := q0.step hx6
              replace q1 := q1.step hx6
              replace q2 := q2.step hx6
              have hbw6 : Below w.heap.size w x6 := hbw5.then_ hx6 hbw5.size
              clear hx6 hbw5
              have q0_0 := q0.cell 0; have q0_f0 := q0.frozen 0; have q0_1 := q0.cell 1; have q0_f1 := q0.frozen 1; have q0_2 := q0.cell 2; have q0_f2 := q0.frozen 2; have q0_3 := q0.cell 3; have q0_f3 := q0.frozen 3; have q0_4 := q0.cell 4; have q0_f4 := q0.frozen 4; have q0_5 := q0.cell 5; have q0_f5 := q0.frozen 5; have q0_6 := q0.cell 6; have q0_f6 := q0.frozen 6; simp only [List.set_cons_zero, List.set_cons_succ, List.getElem?_cons_zero, List.getElem?_cons_succ] at q0_0 q0_1 q0_2 q0_3 q0_4 q0_5 q0_6; have lt_q0 := q0.lt; have q1_0 := q1.cell 0; have q1_f0 := q1.frozen 0; have q1_1 := q1.cell 1; have q1_f1 := q1.frozen 1; have q1_2 := q1.cell 2; have q1_f2 := q1.frozen 2; simp only [List.set_cons_zero, List.set_cons_succ, List.getElem?_cons_zero, List.getElem?_cons_succ] at q1_0 q1_1 q1_2; have lt_q1 := q1.lt; have q2_0 := q2.cell 0; have q2_f0 := q2.frozen 0; have q2_1 := q2.cell 1; have q2_f1 := q2.frozen 1; have q2_2 := q2.cell 2; have q2_f2 := q2.frozen 2; simp only [List.set_cons_zero, List.set_cons_succ, List.getElem?_cons_zero, List.getElem?_cons_succ] at q2_0 q2_1 q2_2; have lt_q2 := q2.lt
              have d8 : decide (hold < 0) = false := by simp; omega
              rcases Nat.eq_zero_or_pos L with hL0 | hL0
              · subst hL0
                have cL := up_cell q0 (k := 0) (by omega)
                have z1 : x6.cell? ⟨S, 0, none⟩ = some (.int .i64 0) := q1_0
                have z2 : x6.cell? ⟨X, 0, none⟩ = some (.int .i64 0) := q2_0
                clear q1_0 q2_0
                have c2' := c2 (by omega)
                clear c2
                go_upto_region 16 with fail
                dsimp only [List.append]
                go_wp2_with fail
                have r1 := ((q1.set_ 0 (.int .i64 (((0 : Nat) : Int)))).set_ 1 (.int .i64 (s))).set_ 2 (.int .i64 (-1))
                simp only [List.set_cons_zero, List.set_cons_succ] at r1
                go_roundw
                case rel => exact ⟨k + 1, 0, 0, ((((0 : Nat) : Int)), (s), (-1)), by omega, by go_num, rfl, HS.out, ((q0.far (by dsimp only; omega) _).far (by dsimp only; omega) _).far (by dsimp only; omega) _, r1, ((hbw6.setCell (by dsimp only; omega) _).setCell (by dsimp only; omega) _).setCell (by dsimp only; omega) _⟩
                case measure => simp [intOf]; omega
              · obtain ⟨i, rfl⟩ : ∃ i, L = i + 1 := ⟨L - 1, by omega⟩
                have cD := dn_cell q0 (k := i) (by omega)
                have c1' : dn i ≤ n := by simpa using c1
                clear c1
                by_cases hB3 : i + 1 < 3
                · have cB' := up_cell q0 (k := i + 1) hB3
                  have c2' := c2 hB3
                  clear c2
                  go_upto_region 16 with fail
                  dsimp only [List.append]
                  go_wp2_with fail
                  have r1 := ((q1.set_ 0 (.int .i64 (((i + 1 : Nat) : Int)))).set_ 1 (.int .i64 (s))).set_ 2 (.int .i64 (-1))
                  simp only [List.set_cons_zero, List.set_cons_succ] at r1
                  go_roundw
                  case rel => exact ⟨k + 1, i + 1, 0, ((((i + 1 : Nat) : Int)), (s), (-1)), by omega, by go_num, rfl, HS.out, ((q0.far (by dsimp only; omega) _).far (by dsimp only; omega) _).far (by dsimp only; omega) _, r1, ((hbw6.setCell (by dsimp only; omega) _).setCell (by dsimp only; omega) _).setCell (by dsimp only; omega) _⟩
                  case measure => simp [intOf]; omega
                · clear c2
                  go_upto_region 16 with fail
                  dsimp only [List.append]
                  go_wp2_with fail
                  have r1 := ((q1.set_ 0 (.int .i64 (((i + 1 : Nat) : Int)))).set_ 1 (.int .i64 (s))).set_ 2 (.int .i64 (-1))
                  simp only [List.set_cons_zero, List.set_cons_succ] at r1
                  go_roundw
                  case rel => exact ⟨k + 1, i + 1, 0, ((((i + 1 : Nat) : Int)), (s), (-1)), by omega, by go_num, rfl, HS.out, ((q0.far (by dsimp only; omega) _).far (by dsimp only; omega) _).far (by dsimp only; omega) _, r1, ((hbw6.setCell (by dsimp only; omega) _).setCell (by dsimp only; omega) _).setCell (by dsimp only; omega) _⟩
                  case measure => simp [intOf]; omega
            · as_aux_lemma =>
              have HE := hide e
              have HS := hide hS
              clear HW e hS
              go_wp2_with fail
              have s1 := S1.out
              have s2 := S2.out
              refine wp_region_mt 11 [(9, only (lsV ((L : Int)) (s) (v'))), (10, NewBk wr.heap.size 29 (lsC 0 0 0))] (by kernel_rfl) (by kernel_rfl) (by kernel_rfl) (by kernel_rfl) (sts_cons (sts_only _) (sts_cons (sts_newBk _ _ _) sts_nil)) (fun kq => ?_); (try dsimp only [List.append, List.take])
              (repeat (refine wpM_via (by kernel_rfl) ?_; go_big_quiet_step (fail); refine wpQuiet_nil ?_))
              (refine wpM_only _ (lsV ((L : Int)) (s) (v')) (by kernel_rfl) (by kernel_rfl) rfl (later_some _) ?_ ?_; (focus (intro x hx hk; obtain ⟨px, rfl⟩ := hx; go_simp; (first | with_reducible refine mUpon_enter ?_ | with_reducible refine mUpon_value ?_); go_at_call 7; exact (level_Step_is HE.out _).mo)); intro K hK; go_big_quiet_op; refine hK _ ?_; clear hK K)
              (refine wpM_spec _ (NewBk wr.heap.size 29 (lsC 0 0 0)) (by kernel_rfl) (by kernel_rfl) rfl (later_some _) ?_ ?_; (focus (intro x hx hk; obtain ⟨px, rfl⟩ := hx; go_simp; (first | with_reducible refine mUpon_enter ?_ | with_reducible refine mUpon_value ?_); exact newBk_new (by simp [Go.Sort.grow]) rfl (by simp [Go.Sort.grow, redrawn]))); intro v hv K hK; obtain ⟨X, rfl, hX⟩ := hv; go_big_quiet_op; refine hK _ ?_; clear hK K)
              refine wpM_nil ?_; intro wq hwq hfq; have hbq := below_of_class hwq; clear hwq kq; (try dsimp only [List.drop])
              clear s1 s2
              have kX : Bk wq X 29 (lsC 0 0 0) := newBk_of (base := wr.heap.size) hfq.1
              (try clear j0_0 j0_f0 j0_1 j0_f1 j0_2 j0_f2 j0_3 j0_f3 j0_4 j0_f4 j0_5 j0_f5 j0_6 j0_f6 lt_j0) ; (try clear j1_0 j1_f0 j1_1 j1_f1 j1_2 j1_f2 lt_j1)
              have p0 := j0.step hbq
              have p1 := j1.step hbq
              have hbw : Below w.heap.size w wq := hbr.then_ hbq hbr.size
              have hXG : G < X ∧ S < X := by have := j0.lt; have := j1.lt; omega
              clear hfq hbq
              have kX_0 := kX.cell 0; have kX_f0 := kX.frozen 0; have kX_1 := kX.cell 1; have kX_f1 := kX.frozen 1; have kX_2 := kX.cell 2; have kX_f2 := kX.frozen 2; simp only [List.set_cons_zero, List.set_cons_succ, List.getElem?_cons_zero, List.getElem?_cons_succ] at kX_0 kX_1 kX_2; have lt_kX := kX.lt; have p0_0 := p0.cell 0; have p0_f0 := p0.frozen 0; have p0_1 := p0.cell 1; have p0_f1 := p0.frozen 1; have p0_2 := p0.cell 2; have p0_f2 := p0.frozen 2; have p0_3 := p0.cell 3; have p0_f3 := p0.frozen 3; have p0_4 := p0.cell 4; have p0_f4 := p0.frozen 4; have p0_5 := p0.cell 5; have p0_f5 := p0.frozen 5; have p0_6 := p0.cell 6; have p0_f6 := p0.frozen 6; simp only [List.set_cons_zero, List.set_cons_succ, List.getElem?_cons_zero, List.getElem?_cons_succ] at p0_0 p0_1 p0_2 p0_3 p0_4 p0_5 p0_6; have lt_p0 := p0.lt; have p1_0 := p1.cell 0; have p1_f0 := p1.frozen 0; have p1_1 := p1.cell 1; have p1_f1 := p1.frozen 1; have p1_2 := p1.cell 2; have p1_f2 := p1.frozen 2; simp only [List.set_cons_zero, List.set_cons_succ, List.getElem?_cons_zero, List.getElem?_cons_succ] at p1_0 p1_1 p1_2; have lt_p1 := p1.lt
              go_wp2_with fail
              generalize hV : World.setCell (World.setCell (World.setCell wq _ _) _ _) _ _ = w5
              have q2 : Bk w5 X 29 (lsC ((L : Int)) (s) (v')) := by subst hV; exact ((kX.set_ 0 _).set_ 1 _).set_ 2 _
              have q0 : Bk w5 G 28 (lcC up dn hold) := by subst hV; exact ((p0.far (by dsimp only; omega) _).far (by dsimp only; omega) _).far (by dsimp only; omega) _
              have q1 : Bk w5 S 29 (lsC L s v) := by subst hV; exact ((p1.far (by dsimp only; omega) _).far (by dsimp only; omega) _).far (by dsimp only; omega) _
              have hbw5 : Below w.heap.size w w5 := by subst hV; exact ((hbw.setCell (by dsimp only; omega) _).setCell (by dsimp only; omega) _).setCell (by dsimp only; omega) _
              (try clear kX_0 kX_f0 kX_1 kX_f1 kX_2 kX_f2 lt_kX) ; (try clear p0_0 p0_f0 p0_1 p0_f1 p0_2 p0_f2 p0_3 p0_f3 p0_4 p0_f4 p0_5 p0_f5 p0_6 p0_f6 lt_p0) ; (try clear p1_0 p1_f0 p1_1 p1_f1 p1_2 p1_f2 lt_p1)
              clear hV kX p0 p1 hbw
              have hfin : Hid (vFine ((L : Int)) (s) (v') = true) := vFine_mk (by omega) (by omega) (by omega)
              with_reducible refine (level_Fine_is hfin.out _).mono ?_; rintro e x6 ⟨rfl, hx6⟩
              replace q0 := q0.step hx6
              replace q1 := q1.step hx6
              replace q2 := q2.step hx6
              have hbw6 : Below w.heap.size w x6 := hbw5.then_ hx6 hbw5.size
              clear hx6 hbw5
              have q0_0 := q0.cell 0; have q0_f0 := q0.frozen 0; have q0_1 := q0.cell 1; have q0_f1 := q0.frozen 1; have q0_2 := q0.cell 2; have q0_f2 := q0.frozen 2; have q0_3 := q0.cell 3; have q0_f3 := q0.frozen 3; have q0_4 := q0.cell 4; have q0_f4 := q0.frozen 4; have q0_5 := q0.cell 5; have q0_f5 := q0.frozen 5; have q0_6 := q0.cell 6; have q0_f6 := q0.frozen 6; simp only [List.set_cons_zero, List.set_cons_succ, List.getElem?_cons_zero, List.getElem?_cons_succ] at q0_0 q0_1 q0_2 q0_3 q0_4 q0_5 q0_6; have lt_q0 := q0.lt; have q1_0 := q1.cell 0; have q1_f0 := q1.frozen 0; have q1_1 := q1.cell 1; have q1_f1 := q1.frozen 1; have q1_2 := q1.cell 2; have q1_f2 := q1.frozen 2; simp only [List.set_cons_zero, List.set_cons_succ, List.getElem?_cons_zero, List.getElem?_cons_succ] at q1_0 q1_1 q1_2; have lt_q1 := q1.lt; have q2_0 := q2.cell 0; have q2_f0 := q2.frozen 0; have q2_1 := q2.cell 1; have q2_f1 := q2.frozen 1; have q2_2 := q2.cell 2; have q2_f2 := q2.frozen 2; simp only [List.set_cons_zero, List.set_cons_succ, List.getElem?_cons_zero, List.getElem?_cons_succ] at q2_0 q2_1 q2_2; have lt_q2 := q2.lt
              have d8 : decide (hold < low + 1) = false := by simp; omega
              obtain ⟨i, rfl⟩ : ∃ i, L = i + 1 := ⟨L - 1, by omega⟩
              have cD := dn_cell q0 (k := i) (by omega)
              have c2' : n < dn i := by simpa using c2
              clear c2
              by_cases hB3 : i + 1 < 3
              · have cB' := up_cell q0 (k := i + 1) hB3
                have c3' := c3 hB3
                clear c3
                go_upto_region 16 with fail
                dsimp only [List.append]
                go_wp2_with fail
                have r1 := ((q1.set_ 0 (.int .i64 (((i + 1 : Nat) : Int)))).set_ 1 (.int .i64 (s))).set_ 2 (.int .i64 (v'))
                simp only [List.set_cons_zero, List.set_cons_succ] at r1
                go_roundw
                case rel => exact ⟨k + 1, i + 1, low + 1, ((((i + 1 : Nat) : Int)), (s), (v')), by omega, by go_num, rfl, HS.out, ((q0.far (by dsimp only; omega) _).far (by dsimp only; omega) _).far (by dsimp only; omega) _, r1, ((hbw6.setCell (by dsimp only; omega) _).setCell (by dsimp only; omega) _).setCell (by dsimp only; omega) _⟩
                case measure => simp [intOf]; omega
              · clear c3
                go_upto_region 16 with fail
                dsimp only [List.append]
                go_wp2_with fail
                have r1 := ((q1.set_ 0 (.int .i64 (((i + 1 : Nat) : Int)))).set_ 1 (.int .i64 (s))).set_ 2 (.int .i64 (v'))
                simp only [List.set_cons_zero, List.set_cons_succ] at r1
                go_roundw
                case rel => exact ⟨k + 1, i + 1, low + 1, ((((i + 1 : Nat) : Int)), (s), (v')), by omega, by go_num, rfl, HS.out, ((q0.far (by dsimp only; omega) _).far (by dsimp only; omega) _).far (by dsimp only; omega) _, r1, ((hbw6.setCell (by dsimp only; omega) _).setCell (by dsimp only; omega) _).setCell (by dsimp only; omega) _⟩
                case measure => simp [intOf]; omega
            · as_aux_lemma =>
              have HE := hide e
              have HS := hide hS
              clear HW e hS
              go_wp2_with fail
              have s1 := S1.out
              have s2 := S2.out
              refine wp_region_mt 11 [(9, only (lsV ((L : Int) - 1) ((k : Int) + 1) (-1))), (10, NewBk wr.heap.size 29 (lsC 0 0 0))] (by kernel_rfl) (by kernel_rfl) (by kernel_rfl) (by kernel_rfl) (sts_cons (sts_only _) (sts_cons (sts_newBk _ _ _) sts_nil)) (fun kq => ?_); (try dsimp only [List.append, List.take])
              (repeat (refine wpM_via (by kernel_rfl) ?_; go_big_quiet_step (fail); refine wpQuiet_nil ?_))
              (refine wpM_only _ (lsV ((L : Int) - 1) ((k : Int) + 1) (-1)) (by kernel_rfl) (by kernel_rfl) rfl (later_some _) ?_ ?_; (focus (intro x hx hk; obtain ⟨px, rfl⟩ := hx; go_simp; (first | with_reducible refine mUpon_enter ?_ | with_reducible refine mUpon_value ?_); go_at_call 7; exact (level_Step_is HE.out _).mo)); intro K hK; go_big_quiet_op; refine hK _ ?_; clear hK K)
              (refine wpM_spec _ (NewBk wr.heap.size 29 (lsC 0 0 0)) (by kernel_rfl) (by kernel_rfl) rfl (later_some _) ?_ ?_; (focus (intro x hx hk; obtain ⟨px, rfl⟩ := hx; go_simp; (first | with_reducible refine mUpon_enter ?_ | with_reducible refine mUpon_value ?_); exact newBk_new (by simp [Go.Sort.grow]) rfl (by simp [Go.Sort.grow, redrawn]))); intro v hv K hK; obtain ⟨X, rfl, hX⟩ := hv; go_big_quiet_op; refine hK _ ?_; clear hK K)
              refine wpM_nil ?_; intro wq hwq hfq; have hbq := below_of_class hwq; clear hwq kq; (try dsimp only [List.drop])
              clear s1 s2
              have kX : Bk wq X 29 (lsC 0 0 0) := newBk_of (base := wr.heap.size) hfq.1
              (try clear j0_0 j0_f0 j0_1 j0_f1 j0_2 j0_f2 j0_3 j0_f3 j0_4 j0_f4 j0_5 j0_f5 j0_6 j0_f6 lt_j0) ; (try clear j1_0 j1_f0 j1_1 j1_f1 j1_2 j1_f2 lt_j1)
              have p0 := j0.step hbq
              have p1 := j1.step hbq
              have hbw : Below w.heap.size w wq := hbr.then_ hbq hbr.size
              have hXG : G < X ∧ S < X := by have := j0.lt; have := j1.lt; omega
              clear hfq hbq
              have kX_0 := kX.cell 0; have kX_f0 := kX.frozen 0; have kX_1 := kX.cell 1; have kX_f1 := kX.frozen 1; have kX_2 := kX.cell 2; have kX_f2 := kX.frozen 2; simp only [List.set_cons_zero, List.set_cons_succ, List.getElem?_cons_zero, List.getElem?_cons_succ] at kX_0 kX_1 kX_2; have lt_kX := kX.lt; have p0_0 := p0.cell 0; have p0_f0 := p0.frozen 0; have p0_1 := p0.cell 1; have p0_f1 := p0.frozen 1; have p0_2 := p0.cell 2; have p0_f2 := p0.frozen 2; have p0_3 := p0.cell 3; have p0_f3 := p0.frozen 3; have p0_4 := p0.cell 4; have p0_f4 := p0.frozen 4; have p0_5 := p0.cell 5; have p0_f5 := p0.frozen 5; have p0_6 := p0.cell 6; have p0_f6 := p0.frozen 6; simp only [List.set_cons_zero, List.set_cons_succ, List.getElem?_cons_zero, List.getElem?_cons_succ] at p0_0 p0_1 p0_2 p0_3 p0_4 p0_5 p0_6; have lt_p0 := p0.lt; have p1_0 := p1.cell 0; have p1_f0 := p1.frozen 0; have p1_1 := p1.cell 1; have p1_f1 := p1.frozen 1; have p1_2 := p1.cell 2; have p1_f2 := p1.frozen 2; simp only [List.set_cons_zero, List.set_cons_succ, List.getElem?_cons_zero, List.getElem?_cons_succ] at p1_0 p1_1 p1_2; have lt_p1 := p1.lt
              go_wp2_with fail
              generalize hV : World.setCell (World.setCell (World.setCell wq _ _) _ _) _ _ = w5
              have q2 : Bk w5 X 29 (lsC ((L : Int) - 1) ((k : Int) + 1) (-1)) := by subst hV; exact ((kX.set_ 0 _).set_ 1 _).set_ 2 _
              have q0 : Bk w5 G 28 (lcC up dn hold) := by subst hV; exact ((p0.far (by dsimp only; omega) _).far (by dsimp only; omega) _).far (by dsimp only; omega) _
              have q1 : Bk w5 S 29 (lsC L s v) := by subst hV; exact ((p1.far (by dsimp only; omega) _).far (by dsimp only; omega) _).far (by dsimp only; omega) _
              have hbw5 : Below w.heap.size w w5 := by subst hV; exact ((hbw.setCell (by dsimp only; omega) _).setCell (by dsimp only; omega) _).setCell (by dsimp only; omega) _
              (try clear kX_0 kX_f0 kX_1 kX_f1 kX_2 kX_f2 lt_kX) ; (try clear p0_0 p0_f0 p0_1 p0_f1 p0_2 p0_f2 p0_3 p0_f3 p0_4 p0_f4 p0_5 p0_f5 p0_6 p0_f6 lt_p0) ; (try clear p1_0 p1_f0 p1_1 p1_f1 p1_2 p1_f2 lt_p1)
              clear hV kX p0 p1 hbw
              have hfin : Hid (vFine ((L : Int) - 1) ((k : Int) + 1) (-1) = true) := vFine_mk (by omega) (by omega) (by omega)
              with_reducible refine (level_Fine_is hfin.out _).mono ?_; rintro e x6 ⟨rfl, hx6⟩
              replace q0 := q0.step hx6
              replace q1 := q1.step hx6
              replace q2 := q2.step hx6
              have hbw6 : Below w.heap.size w x6 := hbw5.then_ hx6 hbw5.size
              clear hx6 hbw5
              have q0_0 := q0.cell 0; have q0_f0 := q0.frozen 0; have q0_1 := q0.cell 1; have q0_f1 := q0.frozen 1; have q0_2 := q0.cell 2; have q0_f2 := q0.frozen 2; have q0_3 := q0.cell 3; have q0_f3 := q0.frozen 3; have q0_4 := q0.cell 4; have q0_f4 := q0.frozen 4; have q0_5 := q0.cell 5; have q0_f5 := q0.frozen 5; have q0_6 := q0.cell 6; have q0_f6 := q0.frozen 6; simp only [List.set_cons_zero, List.set_cons_succ, List.getElem?_cons_zero, List.getElem?_cons_succ] at q0_0 q0_1 q0_2 q0_3 q0_4 q0_5 q0_6; have lt_q0 := q0.lt; have q1_0 := q1.cell 0; have q1_f0 := q1.frozen 0; have q1_1 := q1.cell 1; have q1_f1 := q1.frozen 1; have q1_2 := q1.cell 2; have q1_f2 := q1.frozen 2; simp only [List.set_cons_zero, List.set_cons_succ, List.getElem?_cons_zero, List.getElem?_cons_succ] at q1_0 q1_1 q1_2; have lt_q1 := q1.lt; have q2_0 := q2.cell 0; have q2_f0 := q2.frozen 0; have q2_1 := q2.cell 1; have q2_f1 := q2.frozen 1; have q2_2 := q2.cell 2; have q2_f2 := q2.frozen 2; simp only [List.set_cons_zero, List.set_cons_succ, List.getElem?_cons_zero, List.getElem?_cons_succ] at q2_0 q2_1 q2_2; have lt_q2 := q2.lt
              have d2 : decide (low + 1 ≤ hold) = false := by simp; omega
              have d1 : decide ((L : Int) - 1 < (L : Int)) = true := by simp; omega
              obtain ⟨i, rfl⟩ : ∃ i, L = i + 1 := ⟨L - 1, by omega⟩
              have cD := dn_cell q0 (k := i) (by omega)
              have cB' := up_cell q0 (k := i) (by omega)
              have c2' : n < dn i := by simpa using c2
              have c3' : n < up i := by simpa using c3
              clear c2 c3
              have HT := HS.out
              rw [show ((i + 1 : Nat) : Int) - 1 = (i : Int) by omega, show i + 1 - 1 = i by omega] at HT
              replace HS := hide HT
              clear HT
              go_upto_region 16 with fail
              dsimp only [List.append]
              go_wp2_with fail
              have r1 := ((q1.set_ 0 (.int .i64 ((i : Int)))).set_ 1 (.int .i64 ((k : Int) + 1))).set_ 2 (.int .i64 (-1))
              simp only [List.set_cons_zero, List.set_cons_succ] at r1
              go_roundw
              case rel => exact ⟨k + 1, i, 0, (((i : Int)), ((k : Int) + 1), (-1)), by omega, by go_num, rfl, HS.out, ((q0.far (by dsimp only; omega) _).far (by dsimp only; omega) _).far (by dsimp only; omega) _, r1, ((hbw6.setCell (by dsimp only; omega) _).setCell (by dsimp only; omega) _).setCell (by dsimp only; omega) _⟩
              case measure => simp [intOf]; omega
          ·
            rcases HW.out with ⟨B, e, c1, c2, c3, c4, c5, hS⟩ | ⟨e, c1, c2, hS⟩ | ⟨v', e, c1, c2, c3, c4, c5, hS⟩ | ⟨e, c1, c2, c3, c4, hS⟩
            · as_aux_lemma =>
              have HE := hide e
              have HS := hide hS
              clear HW e hS
              go_wp2_with fail
              have s1 := S1.out
              have s2 := S2.out
              refine wp_region_mt 11 [(9, only (lsV ((B : Int)) ((k : Int) + 1) (-1))), (10, NewBk wr.heap.size 29 (lsC 0 0 0))] (by kernel_rfl) (by kernel_rfl) (by kernel_rfl) (by kernel_rfl) (sts_cons (sts_only _) (sts_cons (sts_newBk _ _ _) sts_nil)) (fun kq => ?_); (try dsimp only [List.append, List.take])
              (repeat (refine wpM_via (by kernel_rfl) ?_; go_big_quiet_step (fail); refine wpQuiet_nil ?_))
              (refine wpM_only _ (lsV ((B : Int)) ((k : Int) + 1) (-1)) (by kernel_rfl) (by kernel_rfl) rfl (later_some _) ?_ ?_; (focus (intro x hx hk; obtain ⟨px, rfl⟩ := hx; go_simp; (first | with_reducible refine mUpon_enter ?_ | with_reducible refine mUpon_value ?_); go_at_call 7; exact (level_Step_is HE.out _).mo)); intro K hK; go_big_quiet_op; refine hK _ ?_; clear hK K)
              (refine wpM_spec _ (NewBk wr.heap.size 29 (lsC 0 0 0)) (by kernel_rfl) (by kernel_rfl) rfl (later_some _) ?_ ?_; (focus (intro x hx hk; obtain ⟨px, rfl⟩ := hx; go_simp; (first | with_reducible refine mUpon_enter ?_ | with_reducible refine mUpon_value ?_); exact newBk_new (by simp [Go.Sort.grow]) rfl (by simp [Go.Sort.grow, redrawn]))); intro v hv K hK; obtain ⟨X, rfl, hX⟩ := hv; go_big_quiet_op; refine hK _ ?_; clear hK K)
              refine wpM_nil ?_; intro wq hwq hfq; have hbq := below_of_class hwq; clear hwq kq; (try dsimp only [List.drop])
              clear s1 s2
              have kX : Bk wq X 29 (lsC 0 0 0) := newBk_of (base := wr.heap.size) hfq.1
              (try clear j0_0 j0_f0 j0_1 j0_f1 j0_2 j0_f2 j0_3 j0_f3 j0_4 j0_f4 j0_5 j0_f5 j0_6 j0_f6 lt_j0) ; (try clear j1_0 j1_f0 j1_1 j1_f1 j1_2 j1_f2 lt_j1)
              have p0 := j0.step hbq
              have p1 := j1.step hbq
              have hbw : Below w.heap.size w wq := hbr.then_ hbq hbr.size
              have hXG : G < X ∧ S < X := by have := j0.lt; have := j1.lt; omega
              clear hfq hbq
              have kX_0 := kX.cell 0; have kX_f0 := kX.frozen 0; have kX_1 := kX.cell 1; have kX_f1 := kX.frozen 1; have kX_2 := kX.cell 2; have kX_f2 := kX.frozen 2; simp only [List.set_cons_zero, List.set_cons_succ, List.getElem?_cons_zero, List.getElem?_cons_succ] at kX_0 kX_1 kX_2; have lt_kX := kX.lt; have p0_0 := p0.cell 0; have p0_f0 := p0.frozen 0; have p0_1 := p0.cell 1; have p0_f1 := p0.frozen 1; have p0_2 := p0.cell 2; have p0_f2 := p0.frozen 2; have p0_3 := p0.cell 3; have p0_f3 := p0.frozen 3; have p0_4 := p0.cell 4; have p0_f4 := p0.frozen 4; have p0_5 := p0.cell 5; have p0_f5 := p0.frozen 5; have p0_6 := p0.cell 6; have p0_f6 := p0.frozen 6; simp only [List.set_cons_zero, List.set_cons_succ, List.getElem?_cons_zero, List.getElem?_cons_succ] at p0_0 p0_1 p0_2 p0_3 p0_4 p0_5 p0_6; have lt_p0 := p0.lt; have p1_0 := p1.cell 0; have p1_f0 := p1.frozen 0; have p1_1 := p1.cell 1; have p1_f1 := p1.frozen 1; have p1_2 := p1.cell 2; have p1_f2 := p1.frozen 2; simp only [List.set_cons_zero, List.set_cons_succ, List.getElem?_cons_zero, List.getElem?_cons_succ] at p1_0 p1_1 p1_2; have lt_p1 := p1.lt
              go_wp2_with fail
              generalize hV : World.setCell (World.setCell (World.setCell wq _ _) _ _) _ _ = w5
              have q2 : Bk w5 X 29 (lsC ((B : Int)) ((k : Int) + 1) (-1)) := by subst hV; exact ((kX.set_ 0 _).set_ 1 _).set_ 2 _
              have q0 : Bk w5 G 28 (lcC up dn hold) := by subst hV; exact ((p0.far (by dsimp only; omega) _).far (by dsimp only; omega) _).far (by dsimp only; omega) _
              have q1 : Bk w5 S 29 (lsC L s v) := by subst hV; exact ((p1.far (by dsimp only; omega) _).far (by dsimp only; omega) _).far (by dsimp only; omega) _
              have hbw5 : Below w.heap.size w w5 := by subst hV; exact ((hbw.setCell (by dsimp only; omega) _).setCell (by dsimp only; omega) _).setCell (by dsimp only; omega) _
              (try clear kX_0 kX_f0 kX_1 kX_f1 kX_2 kX_f2 lt_kX) ; (try clear p0_0 p0_f0 p0_1 p0_f1 p0_2 p0_f2 p0_3 p0_f3 p0_4 p0_f4 p0_5 p0_f5 p0_6 p0_f6 lt_p0) ; (try clear p1_0 p1_f0 p1_1 p1_f1 p1_2 p1_f2 lt_p1)
              clear hV kX p0 p1 hbw
              have hfin : Hid (vFine ((B : Int)) ((k : Int) + 1) (-1) = true) := vFine_mk (by omega) (by omega) (by omega)
              with_reducible refine (level_Fine_is hfin.out _).mono ?_; rintro e x6 ⟨rfl, hx6⟩
              replace q0 := q0.step hx6
              replace q1 := q1.step hx6
              replace q2 := q2.step hx6
              have hbw6 : Below w.heap.size w x6 := hbw5.then_ hx6 hbw5.size
              clear hx6 hbw5
              have q0_0 := q0.cell 0; have q0_f0 := q0.frozen 0; have q0_1 := q0.cell 1; have q0_f1 := q0.frozen 1; have q0_2 := q0.cell 2; have q0_f2 := q0.frozen 2; have q0_3 := q0.cell 3; have q0_f3 := q0.frozen 3; have q0_4 := q0.cell 4; have q0_f4 := q0.frozen 4; have q0_5 := q0.cell 5; have q0_f5 := q0.frozen 5; have q0_6 := q0.cell 6; have q0_f6 := q0.frozen 6; simp only [List.set_cons_zero, List.set_cons_succ, List.getElem?_cons_zero, List.getElem?_cons_succ] at q0_0 q0_1 q0_2 q0_3 q0_4 q0_5 q0_6; have lt_q0 := q0.lt; have q1_0 := q1.cell 0; have q1_f0 := q1.frozen 0; have q1_1 := q1.cell 1; have q1_f1 := q1.frozen 1; have q1_2 := q1.cell 2; have q1_f2 := q1.frozen 2; simp only [List.set_cons_zero, List.set_cons_succ, List.getElem?_cons_zero, List.getElem?_cons_succ] at q1_0 q1_1 q1_2; have lt_q1 := q1.lt; have q2_0 := q2.cell 0; have q2_f0 := q2.frozen 0; have q2_1 := q2.cell 1; have q2_f1 := q2.frozen 1; have q2_2 := q2.cell 2; have q2_f2 := q2.frozen 2; simp only [List.set_cons_zero, List.set_cons_succ, List.getElem?_cons_zero, List.getElem?_cons_succ] at q2_0 q2_1 q2_2; have lt_q2 := q2.lt
              have d1 : decide ((B : Int) < (L : Int)) = false := by simp; omega
              have d4 : decide ((L : Int) < (B : Int)) = true := by simp; omega
              have d5 : decide ((100 : Int) < up L) = false := by simp; omega
              have d7 : ((B : Int) == (L : Int)) = false := by rw [beq_eq_false_iff_ne]; omega
              have cB := fun h : B < 3 => up_cell q0 (k := B) h
              have cL := up_cell q0 (k := L) (by omega)
              rcases Nat.eq_zero_or_pos L with hL0 | hL0
              · subst hL0
                have z1 : x6.cell? ⟨S, 0, none⟩ = some (.int .i64 0) := q1_0
                clear q1_0
                by_cases hB3 : B < 3
                · have cB' := cB hB3
                  have c4' := c4 hB3
                  clear cB c4
                  go_upto_region 16 with fail
                  dsimp only [List.append]
                  go_wp2_with fail
                  have r1 := ((q1.set_ 0 (.int .i64 ((B : Int)))).set_ 1 (.int .i64 ((k : Int) + 1))).set_ 2 (.int .i64 (-1))
                  simp only [List.set_cons_zero, List.set_cons_succ] at r1
                  go_roundw
                  case rel => exact ⟨k + 1, B, 0, (((B : Int)), ((k : Int) + 1), (-1)), by omega, by go_num, rfl, HS.out, ((q0.far (by dsimp only; omega) _).far (by dsimp only; omega) _).far (by dsimp only; omega) _, r1, ((hbw6.setCell (by dsimp only; omega) _).setCell (by dsimp only; omega) _).setCell (by dsimp only; omega) _⟩
                  case measure => simp [intOf]; omega
                · clear cB c4
                  go_upto_region 16 with fail
                  dsimp only [List.append]
                  go_wp2_with fail
                  have r1 := ((q1.set_ 0 (.int .i64 ((B : Int)))).set_ 1 (.int .i64 ((k : Int) + 1))).set_ 2 (.int .i64 (-1))
                  simp only [List.set_cons_zero, List.set_cons_succ] at r1
                  go_roundw
                  case rel => exact ⟨k + 1, B, 0, (((B : Int)), ((k : Int) + 1), (-1)), by omega, by go_num, rfl, HS.out, ((q0.far (by dsimp only; omega) _).far (by dsimp only; omega) _).far (by dsimp only; omega) _, r1, ((hbw6.setCell (by dsimp only; omega) _).setCell (by dsimp only; omega) _).setCell (by dsimp only; omega) _⟩
                  case measure => simp [intOf]; omega
              · obtain ⟨i, rfl⟩ : ∃ i, L = i + 1 := ⟨L - 1, by omega⟩
                have cD := dn_cell q0 (k := i) (by omega)
                have c5' : dn i ≤ (100 : Int) := by simpa using c5
                clear c5
                by_cases hB3 : B < 3
                · have cB' := cB hB3
                  have c4' := c4 hB3
                  clear cB c4
                  go_upto_region 16 with fail
                  dsimp only [List.append]
                  go_wp2_with fail
                  have r1 := ((q1.set_ 0 (.int .i64 ((B : Int)))).set_ 1 (.int .i64 ((k : Int) + 1))).set_ 2 (.int .i64 (-1))
                  simp only [List.set_cons_zero, List.set_cons_succ] at r1
                  go_roundw
                  case rel => exact ⟨k + 1, B, 0, (((B : Int)), ((k : Int) + 1), (-1)), by omega, by go_num, rfl, HS.out, ((q0.far (by dsimp only; omega) _).far (by dsimp only; omega) _).far (by dsimp only; omega) _, r1, ((hbw6.setCell (by dsimp only; omega) _).setCell (by dsimp only; omega) _).setCell (by dsimp only; omega) _⟩
                  case measure => simp [intOf]; omega
                · clear cB c4
                  go_upto_region 16 with fail
                  dsimp only [List.append]
                  go_wp2_with fail
                  have r1 := ((q1.set_ 0 (.int .i64 ((B : Int)))).set_ 1 (.int .i64 ((k : Int) + 1))).set_ 2 (.int .i64 (-1))
                  simp only [List.set_cons_zero, List.set_cons_succ] at r1
                  go_roundw
                  case rel => exact ⟨k + 1, B, 0, (((B : Int)), ((k : Int) + 1), (-1)), by omega, by go_num, rfl, HS.out, ((q0.far (by dsimp only; omega) _).far (by dsimp only; omega) _).far (by dsimp only; omega) _, r1, ((hbw6.setCell (by dsimp only; omega) _).setCell (by dsimp only; omega) _).setCell (by dsimp only; omega) _⟩
                  case measure => simp [intOf]; omega
            · as_aux_lemma =>
              have HE := hide e
              have HS := hide hS
              clear HW e hS
              go_wp2_with fail
              have s1 := S1.out
              have s2 := S2.out
              refine wp_region_mt 11 [(9, only (lsV ((L : Int)) (s) (-1))), (10, NewBk wr.heap.size 29 (lsC 0 0 0))] (by kernel_rfl) (by kernel_rfl) (by kernel_rfl) (by kernel_rfl) (sts_cons (sts_only _) (sts_cons (sts_newBk _ _ _) sts_nil)) (fun kq => ?_); (try dsimp only [List.append, List.take])
              (repeat (refine wpM_via (by kernel_rfl) ?_; go_big_quiet_step (fail); refine wpQuiet_nil ?_))
              (refine wpM_only _ (lsV ((L : Int)) (s) (-1)) (by kernel_rfl) (by kernel_rfl) rfl (later_some _) ?_ ?_; (focus (intro x hx hk; obtain ⟨px, rfl⟩ := hx; go_simp; (first | with_reducible refine mUpon_enter ?_ | with_reducible refine mUpon_value ?_); go_at_call 7; exact (level_Step_is HE.out _).mo)); intro K hK; go_big_quiet_op; refine hK _ ?_; clear hK K)
              (refine wpM_spec _ (NewBk wr.heap.size 29 (lsC 0 0 0)) (by kernel_rfl) (by kernel_rfl) rfl (later_some _) ?_ ?_; (focus (intro x hx hk; obtain ⟨px, rfl⟩ := hx; go_simp; (first | with_reducible refine mUpon_enter ?_ | with_reducible refine mUpon_value ?_); exact newBk_new (by simp [Go.Sort.grow]) rfl (by simp [Go.Sort.grow, redrawn]))); intro v hv K hK; obtain ⟨X, rfl, hX⟩ := hv; go_big_quiet_op; refine hK _ ?_; clear hK K)
              refine wpM_nil ?_; intro wq hwq hfq; have hbq := below_of_class hwq; clear hwq kq; (try dsimp only [List.drop])
              clear s1 s2
              have kX : Bk wq X 29 (lsC 0 0 0) := newBk_of (base := wr.heap.size) hfq.1
              (try clear j0_0 j0_f0 j0_1 j0_f1 j0_2 j0_f2 j0_3 j0_f3 j0_4 j0_f4 j0_5 j0_f5 j0_6 j0_f6 lt_j0) ; (try clear j1_0 j1_f0 j1_1 j1_f1 j1_2 j1_f2 lt_j1)
              have p0 := j0.step hbq
              have p1 := j1.step hbq
              have hbw : Below w.heap.size w wq := hbr.then_ hbq hbr.size
              have hXG : G < X ∧ S < X := by have := j0.lt; have := j1.lt; omega
              clear hfq hbq
              have kX_0 := kX.cell 0; have kX_f0 := kX.frozen 0; have kX_1 := kX.cell 1; have kX_f1 := kX.frozen 1; have kX_2 := kX.cell 2; have kX_f2 := kX.frozen 2; simp only [List.set_cons_zero, List.set_cons_succ, List.getElem?_cons_zero, List.getElem?_cons_succ] at kX_0 kX_1 kX_2; have lt_kX := kX.lt; have p0_0 := p0.cell 0; have p0_f0 := p0.frozen 0; have p0_1 := p0.cell 1; have p0_f1 := p0.frozen 1; have p0_2 := p0.cell 2; have p0_f2 := p0.frozen 2; have p0_3 := p0.cell 3; have p0_f3 := p0.frozen 3; have p0_4 := p0.cell 4; have p0_f4 := p0.frozen 4; have p0_5 := p0.cell 5; have p0_f5 := p0.frozen 5; have p0_6 := p0.cell 6; have p0_f6 := p0.frozen 6; simp only [List.set_cons_zero, List.set_cons_succ, List.getElem?_cons_zero, List.getElem?_cons_succ] at p0_0 p0_1 p0_2 p0_3 p0_4 p0_5 p0_6; have lt_p0 := p0.lt; have p1_0 := p1.cell 0; have p1_f0 := p1.frozen 0; have p1_1 := p1.cell 1; have p1_f1 := p1.frozen 1; have p1_2 := p1.cell 2; have p1_f2 := p1.frozen 2; simp only [List.set_cons_zero, List.set_cons_succ, List.getElem?_cons_zero, List.getElem?_cons_succ] at p1_0 p1_1 p1_2; have lt_p1 := p1.lt
              go_wp2_with fail
              generalize hV : World.setCell (World.setCell (World.setCell wq _ _) _ _) _ _ = w5
              have q2 : Bk w5 X 29 (lsC ((L : Int)) (s) (-1)) := by subst hV; exact ((kX.set_ 0 _).set_ 1 _).set_ 2 _
              have q0 : Bk w5 G 28 (lcC up dn hold) := by subst hV; exact ((p0.far (by dsimp only; omega) _).far (by dsimp only; omega) _).far (by dsimp only; omega) _
              have q1 : Bk w5 S 29 (lsC L s v) := by subst hV; exact ((p1.far (by dsimp only; omega) _).far (by dsimp only; omega) _).far (by dsimp only; omega) _
              have hbw5 : Below w.heap.size w w5 := by subst hV; exact ((hbw.setCell (by dsimp only; omega) _).setCell (by dsimp only; omega) _).setCell (by dsimp only; omega) _
              (try clear kX_0 kX_f0 kX_1 kX_f1 kX_2 kX_f2 lt_kX) ; (try clear p0_0 p0_f0 p0_1 p0_f1 p0_2 p0_f2 p0_3 p0_f3 p0_4 p0_f4 p0_5 p0_f5 p0_6 p0_f6 lt_p0) ; (try clear p1_0 p1_f0 p1_1 p1_f1 p1_2 p1_f2 lt_p1)
              clear hV kX p0 p1 hbw
              have hfin : Hid (vFine ((L : Int)) (s) (-1) = true) := vFine_mk (by omega) (by omega) (by omega)
              with_reducible refine (level_Fine_is hfin.out _).mono ?_; rintro e x6 ⟨rfl, hx6⟩
              replace q0 := q0.step hx6
              replace q1 := q1.step hx6
              replace q2 := q2.step hx6
              have hbw6 : Below w.heap.size w x6 := hbw5.then_ hx6 hbw5.size
              clear hx6 hbw5
              have q0_0 := q0.cell 0; have q0_f0 := q0.frozen 0; have q0_1 := q0.cell 1; have q0_f1 := q0.frozen 1; have q0_2 := q0.cell 2; have q0_f2 := q0.frozen 2; have q0_3 := q0.cell 3; have q0_f3 := q0.frozen 3; have q0_4 := q0.cell 4; have q0_f4 := q0.frozen 4; have q0_5 := q0.cell 5; have q0_f5 := q0.frozen 5; have q0_6 := q0.cell 6; have q0_f6 := q0.frozen 6; simp only [List.set_cons_zero, List.set_cons_succ, List.getElem?_cons_zero, List.getElem?_cons_succ] at q0_0 q0_1 q0_2 q0_3 q0_4 q0_5 q0_6; have lt_q0 := q0.lt; have q1_0 := q1.cell 0; have q1_f0 := q1.frozen 0; have q1_1 := q1.cell 1; have q1_f1 := q1.frozen 1; have q1_2 := q1.cell 2; have q1_f2 := q1.frozen 2; simp only [List.set_cons_zero, List.set_cons_succ, List.getElem?_cons_zero, List.getElem?_cons_succ] at q1_0 q1_1 q1_2; have lt_q1 := q1.lt; have q2_0 := q2.cell 0; have q2_f0 := q2.frozen 0; have q2_1 := q2.cell 1; have q2_f1 := q2.frozen 1; have q2_2 := q2.cell 2; have q2_f2 := q2.frozen 2; simp only [List.set_cons_zero, List.set_cons_succ, List.getElem?_cons_zero, List.getElem?_cons_succ] at q2_0 q2_1 q2_2; have lt_q2 := q2.lt
              have d8 : decide (hold < 0) = false := by simp; omega
              rcases Nat.eq_zero_or_pos L with hL0 | hL0
              · subst hL0
                have cL := up_cell q0 (k := 0) (by omega)
                have z1 : x6.cell? ⟨S, 0, none⟩ = some (.int .i64 0) := q1_0
                have z2 : x6.cell? ⟨X, 0, none⟩ = some (.int .i64 0) := q2_0
                clear q1_0 q2_0
                have c2' := c2 (by omega)
                clear c2
                go_upto_region 16 with fail
                dsimp only [List.append]
                go_wp2_with fail
                have r1 := ((q1.set_ 0 (.int .i64 (((0 : Nat) : Int)))).set_ 1 (.int .i64 (s))).set_ 2 (.int .i64 (-1))
                simp only [List.set_cons_zero, List.set_cons_succ] at r1
                go_roundw
                case rel => exact ⟨k + 1, 0, 0, ((((0 : Nat) : Int)), (s), (-1)), by omega, by go_num, rfl, HS.out, ((q0.far (by dsimp only; omega) _).far (by dsimp only; omega) _).far (by dsimp only; omega) _, r1, ((hbw6.setCell (by dsimp only; omega) _).setCell (by dsimp only; omega) _).setCell (by dsimp only; omega) _⟩
                case measure => simp [intOf]; omega
              · obtain ⟨i, rfl⟩ : ∃ i, L = i + 1 := ⟨L - 1, by omega⟩
                have cD := dn_cell q0 (k := i) (by omega)
                have c1' : dn i ≤ (100 : Int) := by simpa using c1
                clear c1
                by_cases hB3 : i + 1 < 3
                · have cB' := up_cell q0 (k := i + 1) hB3
                  have c2' := c2 hB3
                  clear c2
                  go_upto_region 16 with fail
                  dsimp only [List.append]
                  go_wp2_with fail
                  have r1 := ((q1.set_ 0 (.int .i64 (((i + 1 : Nat) : Int)))).set_ 1 (.int .i64 (s))).set_ 2 (.int .i64 (-1))
                  simp only [List.set_cons_zero, List.set_cons_succ] at r1
                  go_roundw
                  case rel => exact ⟨k + 1, i + 1, 0, ((((i + 1 : Nat) : Int)), (s), (-1)), by omega, by go_num, rfl, HS.out, ((q0.far (by dsimp only; omega) _).far (by dsimp only; omega) _).far (by dsimp only; omega) _, r1, ((hbw6.setCell (by dsimp only; omega) _).setCell (by dsimp only; omega) _).setCell (by dsimp only; omega) _⟩
                  case measure => simp [intOf]; omega
                · clear c2
                  go_upto_region 16 with fail
                  dsimp only [List.append]
                  go_wp2_with fail
                  have r1 := ((q1.set_ 0 (.int .i64 (((i + 1 : Nat) : Int)))).set_ 1 (.int .i64 (s))).set_ 2 (.int .i64 (-1))
                  simp only [List.set_cons_zero, List.set_cons_succ] at r1
                  go_roundw
                  case rel => exact ⟨k + 1, i + 1, 0, ((((i + 1 : Nat) : Int)), (s), (-1)), by omega, by go_num, rfl, HS.out, ((q0.far (by dsimp only; omega) _).far (by dsimp only; omega) _).far (by dsimp only; omega) _, r1, ((hbw6.setCell (by dsimp only; omega) _).setCell (by dsimp only; omega) _).setCell (by dsimp only; omega) _⟩
                  case measure => simp [intOf]; omega
            · as_aux_lemma =>
              have HE := hide e
              have HS := hide hS
              clear HW e hS
              go_wp2_with fail
              have s1 := S1.out
              have s2 := S2.out
              refine wp_region_mt 11 [(9, only (lsV ((L : Int)) (s) (v'))), (10, NewBk wr.heap.size 29 (lsC 0 0 0))] (by kernel_rfl) (by kernel_rfl) (by kernel_rfl) (by kernel_rfl) (sts_cons (sts_only _) (sts_cons (sts_newBk _ _ _) sts_nil)) (fun kq => ?_); (try dsimp only [List.append, List.take])
              (repeat (refine wpM_via (by kernel_rfl) ?_; go_big_quiet_step (fail); refine wpQuiet_nil ?_))
              (refine wpM_only _ (lsV ((L : Int)) (s) (v')) (by kernel_rfl) (by kernel_rfl) rfl (later_some _) ?_ ?_; (focus (intro x hx hk; obtain ⟨px, rfl⟩ := hx; go_simp; (first | with_reducible refine mUpon_enter ?_ | with_reducible refine mUpon_value ?_); go_at_call 7; exact (level_Step_is HE.out _).mo)); intro K hK; go_big_quiet_op; refine hK _ ?_; clear hK K)
              (refine wpM_spec _ (NewBk wr.heap.size 29 (lsC 0 0 0)) (by kernel_rfl) (by kernel_rfl) rfl (later_some _) ?_ ?_; (focus (intro x hx hk; obtain ⟨px, rfl⟩ := hx; go_simp; (first | with_reducible refine mUpon_enter ?_ | with_reducible refine mUpon_value ?_); exact newBk_new (by simp [Go.Sort.grow]) rfl (by simp [Go.Sort.grow, redrawn]))); intro v hv K hK; obtain ⟨X, rfl, hX⟩ := hv; go_big_quiet_op; refine hK _ ?_; clear hK K)
              refine wpM_nil ?_; intro wq hwq hfq; have hbq := below_of_class hwq; clear hwq kq; (try dsimp only [List.drop])
              clear s1 s2
              have kX : Bk wq X 29 (lsC 0 0 0) := newBk_of (base := wr.heap.size) hfq.1
              (try clear j0_0 j0_f0 j0_1 j0_f1 j0_2 j0_f2 j0_3 j0_f3 j0_4 j0_f4 j0_5 j0_f5 j0_6 j0_f6 lt_j0) ; (try clear j1_0 j1_f0 j1_1 j1_f1 j1_2 j1_f2 lt_j1)
              have p0 := j0.step hbq
              have p1 := j1.step hbq
              have hbw : Below w.heap.size w wq := hbr.then_ hbq hbr.size
              have hXG : G < X ∧ S < X := by have := j0.lt; have := j1.lt; omega
              clear hfq hbq
              have kX_0 := kX.cell 0; have kX_f0 := kX.frozen 0; have kX_1 := kX.cell 1; have kX_f1 := kX.frozen 1; have kX_2 := kX.cell 2; have kX_f2 := kX.frozen 2; simp only [List.set_cons_zero, List.set_cons_succ, List.getElem?_cons_zero, List.getElem?_cons_succ] at kX_0 kX_1 kX_2; have lt_kX := kX.lt; have p0_0 := p0.cell 0; have p0_f0 := p0.frozen 0; have p0_1 := p0.cell 1; have p0_f1 := p0.frozen 1; have p0_2 := p0.cell 2; have p0_f2 := p0.frozen 2; have p0_3 := p0.cell 3; have p0_f3 := p0.frozen 3; have p0_4 := p0.cell 4; have p0_f4 := p0.frozen 4; have p0_5 := p0.cell 5; have p0_f5 := p0.frozen 5; have p0_6 := p0.cell 6; have p0_f6 := p0.frozen 6; simp only [List.set_cons_zero, List.set_cons_succ, List.getElem?_cons_zero, List.getElem?_cons_succ] at p0_0 p0_1 p0_2 p0_3 p0_4 p0_5 p0_6; have lt_p0 := p0.lt; have p1_0 := p1.cell 0; have p1_f0 := p1.frozen 0; have p1_1 := p1.cell 1; have p1_f1 := p1.frozen 1; have p1_2 := p1.cell 2; have p1_f2 := p1.frozen 2; simp only [List.set_cons_zero, List.set_cons_succ, List.getElem?_cons_zero, List.getElem?_cons_succ] at p1_0 p1_1 p1_2; have lt_p1 := p1.lt
              go_wp2_with fail
              generalize hV : World.setCell (World.setCell (World.setCell wq _ _) _ _) _ _ = w5
              have q2 : Bk w5 X 29 (lsC ((L : Int)) (s) (v')) := by subst hV; exact ((kX.set_ 0 _).set_ 1 _).set_ 2 _
              have q0 : Bk w5 G 28 (lcC up dn hold) := by subst hV; exact ((p0.far (by dsimp only; omega) _).far (by dsimp only; omega) _).far (by dsimp only; omega) _
              have q1 : Bk w5 S 29 (lsC L s v) := by subst hV; exact ((p1.far (by dsimp only; omega) _).far (by dsimp only; omega) _).far (by dsimp only; omega) _
              have hbw5 : Below w.heap.size w w5 := by subst hV; exact ((hbw.setCell (by dsimp only; omega) _).setCell (by dsimp only; omega) _).setCell (by dsimp only; omega) _
              (try clear kX_0 kX_f0 kX_1 kX_f1 kX_2 kX_f2 lt_kX) ; (try clear p0_0 p0_f0 p0_1 p0_f1 p0_2 p0_f2 p0_3 p0_f3 p0_4 p0_f4 p0_5 p0_f5 p0_6 p0_f6 lt_p0) ; (try clear p1_0 p1_f0 p1_1 p1_f1 p1_2 p1_f2 lt_p1)
              clear hV kX p0 p1 hbw
              have hfin : Hid (vFine ((L : Int)) (s) (v') = true) := vFine_mk (by omega) (by omega) (by omega)
              with_reducible refine (level_Fine_is hfin.out _).mono ?_; rintro e x6 ⟨rfl, hx6⟩
              replace q0 := q0.step hx6
              replace q1 := q1.step hx6
              replace q2 := q2.step hx6
              have hbw6 : Below w.heap.size w x6 := hbw5.then_ hx6 hbw5.size
              clear hx6 hbw5
              have q0_0 := q0.cell 0; have q0_f0 := q0.frozen 0; have q0_1 := q0.cell 1; have q0_f1 := q0.frozen 1; have q0_2 := q0.cell 2; have q0_f2 := q0.frozen 2; have q0_3 := q0.cell 3; have q0_f3 := q0.frozen 3; have q0_4 := q0.cell 4; have q0_f4 := q0.frozen 4; have q0_5 := q0.cell 5; have q0_f5 := q0.frozen 5; have q0_6 := q0.cell 6; have q0_f6 := q0.frozen 6; simp only [List.set_cons_zero, List.set_cons_succ, List.getElem?_cons_zero, List.getElem?_cons_succ] at q0_0 q0_1 q0_2 q0_3 q0_4 q0_5 q0_6; have lt_q0 := q0.lt; have q1_0 := q1.cell 0; have q1_f0 := q1.frozen 0; have q1_1 := q1.cell 1; have q1_f1 := q1.frozen 1; have q1_2 := q1.cell 2; have q1_f2 := q1.frozen 2; simp only [List.set_cons_zero, List.set_cons_succ, List.getElem?_cons_zero, List.getElem?_cons_succ] at q1_0 q1_1 q1_2; have lt_q1 := q1.lt; have q2_0 := q2.cell 0; have q2_f0 := q2.frozen 0; have q2_1 := q2.cell 1; have q2_f1 := q2.frozen 1; have q2_2 := q2.cell 2; have q2_f2 := q2.frozen 2; simp only [List.set_cons_zero, List.set_cons_succ, List.getElem?_cons_zero, List.getElem?_cons_succ] at q2_0 q2_1 q2_2; have lt_q2 := q2.lt
              have d8 : decide (hold < low + 1) = false := by simp; omega
              obtain ⟨i, rfl⟩ : ∃ i, L = i + 1 := ⟨L - 1, by omega⟩
              have cD := dn_cell q0 (k := i) (by omega)
              have c2' : (100 : Int) < dn i := by simpa using c2
              clear c2
              by_cases hB3 : i + 1 < 3
              · have cB' := up_cell q0 (k := i + 1) hB3
                have c3' := c3 hB3
                clear c3
                go_upto_region 16 with fail
                dsimp only [List.append]
                go_wp2_with fail
                have r1 := ((q1.set_ 0 (.int .i64 (((i + 1 : Nat) : Int)))).set_ 1 (.int .i64 (s))).set_ 2 (.int .i64 (v'))
                simp only [List.set_cons_zero, List.set_cons_succ] at r1
                go_roundw
                case rel => exact ⟨k + 1, i + 1, low + 1, ((((i + 1 : Nat) : Int)), (s), (v')), by omega, by go_num, rfl, HS.out, ((q0.far (by dsimp only; omega) _).far (by dsimp only; omega) _).far (by dsimp only; omega) _, r1, ((hbw6.setCell (by dsimp only; omega) _).setCell (by dsimp only; omega) _).setCell (by dsimp only; omega) _⟩
                case measure => simp [intOf]; omega
              · clear c3
                go_upto_region 16 with fail
                dsimp only [List.append]
                go_wp2_with fail
                have r1 := ((q1.set_ 0 (.int .i64 (((i + 1 : Nat) : Int)))).set_ 1 (.int .i64 (s))).set_ 2 (.int .i64 (v'))
                simp only [List.set_cons_zero, List.set_cons_succ] at r1
                go_roundw
                case rel => exact ⟨k + 1, i + 1, low + 1, ((((i + 1 : Nat) : Int)), (s), (v')), by omega, by go_num, rfl, HS.out, ((q0.far (by dsimp only; omega) _).far (by dsimp only; omega) _).far (by dsimp only; omega) _, r1, ((hbw6.setCell (by dsimp only; omega) _).setCell (by dsimp only; omega) _).setCell (by dsimp only; omega) _⟩
                case measure => simp [intOf]; omega
            · as_aux_lemma =>
              have HE := hide e
              have HS := hide hS
              clear HW e hS
              go_wp2_with fail
              have s1 := S1.out
              have s2 := S2.out
              refine wp_region_mt 11 [(9, only (lsV ((L : Int) - 1) ((k : Int) + 1) (-1))), (10, NewBk wr.heap.size 29 (lsC 0 0 0))] (by kernel_rfl) (by kernel_rfl) (by kernel_rfl) (by kernel_rfl) (sts_cons (sts_only _) (sts_cons (sts_newBk _ _ _) sts_nil)) (fun kq => ?_); (try dsimp only [List.append, List.take])
              (repeat (refine wpM_via (by kernel_rfl) ?_; go_big_quiet_step (fail); refine wpQuiet_nil ?_))
              (refine wpM_only _ (lsV ((L : Int) - 1) ((k : Int) + 1) (-1)) (by kernel_rfl) (by kernel_rfl) rfl (later_some _) ?_ ?_; (focus (intro x hx hk; obtain ⟨px, rfl⟩ := hx; go_simp; (first | with_reducible refine mUpon_enter ?_ | with_reducible refine mUpon_value ?_); go_at_call 7; exact (level_Step_is HE.out _).mo)); intro K hK; go_big_quiet_op; refine hK _ ?_; clear hK K)
              (refine wpM_spec _ (NewBk wr.heap.size 29 (lsC 0 0 0)) (by kernel_rfl) (by kernel_rfl) rfl (later_some _) ?_ ?_; (focus (intro x hx hk; obtain ⟨px, rfl⟩ := hx; go_simp; (first | with_reducible refine mUpon_enter ?_ | with_reducible refine mUpon_value ?_); exact newBk_new (by simp [Go.Sort.grow]) rfl (by simp [Go.Sort.grow, redrawn]))); intro v hv K hK; obtain ⟨X, rfl, hX⟩ := hv; go_big_quiet_op; refine hK _ ?_; clear hK K)
              refine wpM_nil ?_; intro wq hwq hfq; have hbq := below_of_class hwq; clear hwq kq; (try dsimp only [List.drop])
              clear s1 s2
              have kX : Bk wq X 29 (lsC 0 0 0) := newBk_of (base := wr.heap.size) hfq.1
              (try clear j0_0 j0_f0 j0_1 j0_f1 j0_2 j0_f2 j0_3 j0_f3 j0_4 j0_f4 j0_5 j0_f5 j0_6 j0_f6 lt_j0) ; (try clear j1_0 j1_f0 j1_1 j1_f1 j1_2 j1_f2 lt_j1)
              have p0 := j0.step hbq
              have p1 := j1.step hbq
              have hbw : Below w.heap.size w wq := hbr.then_ hbq hbr.size
              have hXG : G < X ∧ S < X := by have := j0.lt; have := j1.lt; omega
              clear hfq hbq
              have kX_0 := kX.cell 0; have kX_f0 := kX.frozen 0; have kX_1 := kX.cell 1; have kX_f1 := kX.frozen 1; have kX_2 := kX.cell 2; have kX_f2 := kX.frozen 2; simp only [List.set_cons_zero, List.set_cons_succ, List.getElem?_cons_zero, List.getElem?_cons_succ] at kX_0 kX_1 kX_2; have lt_kX := kX.lt; have p0_0 := p0.cell 0; have p0_f0 := p0.frozen 0; have p0_1 := p0.cell 1; have p0_f1 := p0.frozen 1; have p0_2 := p0.cell 2; have p0_f2 := p0.frozen 2; have p0_3 := p0.cell 3; have p0_f3 := p0.frozen 3; have p0_4 := p0.cell 4; have p0_f4 := p0.frozen 4; have p0_5 := p0.cell 5; have p0_f5 := p0.frozen 5; have p0_6 := p0.cell 6; have p0_f6 := p0.frozen 6; simp only [List.set_cons_zero, List.set_cons_succ, List.getElem?_cons_zero, List.getElem?_cons_succ] at p0_0 p0_1 p0_2 p0_3 p0_4 p0_5 p0_6; have lt_p0 := p0.lt; have p1_0 := p1.cell 0; have p1_f0 := p1.frozen 0; have p1_1 := p1.cell 1; have p1_f1 := p1.frozen 1; have p1_2 := p1.cell 2; have p1_f2 := p1.frozen 2; simp only [List.set_cons_zero, List.set_cons_succ, List.getElem?_cons_zero, List.getElem?_cons_succ] at p1_0 p1_1 p1_2; have lt_p1 := p1.lt
              go_wp2_with fail
              generalize hV : World.setCell (World.setCell (World.setCell wq _ _) _ _) _ _ = w5
              have q2 : Bk w5 X 29 (lsC ((L : Int) - 1) ((k : Int) + 1) (-1)) := by subst hV; exact ((kX.set_ 0 _).set_ 1 _).set_ 2 _
              have q0 : Bk w5 G 28 (lcC up dn hold) := by subst hV; exact ((p0.far (by dsimp only; omega) _).far (by dsimp only; omega) _).far (by dsimp only; omega) _
              have q1 : Bk w5 S 29 (lsC L s v) := by subst hV; exact ((p1.far (by dsimp only; omega) _).far (by dsimp only; omega) _).far (by dsimp only; omega) _
              have hbw5 : Below w.heap.size w w5 := by subst hV; exact ((hbw.setCell (by dsimp only; omega) _).setCell (by dsimp only; omega) _).setCell (by dsimp only; omega) _
              (try clear kX_0 kX_f0 kX_1 kX_f1 kX_2 kX_f2 lt_kX) ; (try clear p0_0 p0_f0 p0_1 p0_f1 p0_2 p0_f2 p0_3 p0_f3 p0_4 p0_f4 p0_5 p0_f5 p0_6 p0_f6 lt_p0) ; (try clear p1_0 p1_f0 p1_1 p1_f1 p1_2 p1_f2 lt_p1)
              clear hV kX p0 p1 hbw
              have hfin : Hid (vFine ((L : Int) - 1) ((k : Int) + 1) (-1) = true) := vFine_mk (by omega) (by omega) (by omega)
              with_reducible refine (level_Fine_is hfin.out _).mono ?_; rintro e x6 ⟨rfl, hx6⟩
              replace q0 := q0.step hx6
              replace q1 := q1.step hx6
              replace q2 := q2.step hx6
              have hbw6 : Below w.heap.size w x6 := hbw5.then_ hx6 hbw5.size
              clear hx6 hbw5
              have q0_0 := q0.cell 0; have q0_f0 := q0.frozen 0; have q0_1 := q0.cell 1; have q0_f1 := q0.frozen 1; have q0_2 := q0.cell 2; have q0_f2 := q0.frozen 2; have q0_3 := q0.cell 3; have q0_f3 := q0.frozen 3; have q0_4 := q0.cell 4; have q0_f4 := q0.frozen 4; have q0_5 := q0.cell 5; have q0_f5 := q0.frozen 5; have q0_6 := q0.cell 6; have q0_f6 := q0.frozen 6; simp only [List.set_cons_zero, List.set_cons_succ, List.getElem?_cons_zero, List.getElem?_cons_succ] at q0_0 q0_1 q0_2 q0_3 q0_4 q0_5 q0_6; have lt_q0 := q0.lt; have q1_0 := q1.cell 0; have q1_f0 := q1.frozen 0; have q1_1 := q1.cell 1; have q1_f1 := q1.frozen 1; have q1_2 := q1.cell 2; have q1_f2 := q1.frozen 2; simp only [List.set_cons_zero, List.set_cons_succ, List.getElem?_cons_zero, List.getElem?_cons_succ] at q1_0 q1_1 q1_2; have lt_q1 := q1.lt; have q2_0 := q2.cell 0; have q2_f0 := q2.frozen 0; have q2_1 := q2.cell 1; have q2_f1 := q2.frozen 1; have q2_2 := q2.cell 2; have q2_f2 := q2.frozen 2; simp only [List.set_cons_zero, List.set_cons_succ, List.getElem?_cons_zero, List.getElem?_cons_succ] at q2_0 q2_1 q2_2; have lt_q2 := q2.lt
              have d2 : decide (low + 1 ≤ hold) = false := by simp; omega
              have d1 : decide ((L : Int) - 1 < (L : Int)) = true := by simp; omega
              obtain ⟨i, rfl⟩ : ∃ i, L = i + 1 := ⟨L - 1, by omega⟩
              have cD := dn_cell q0 (k := i) (by omega)
              have cB' := up_cell q0 (k := i) (by omega)
              have c2' : (100 : Int) < dn i := by simpa using c2
              have c3' : (100 : Int) < up i := by simpa using c3
              clear c2 c3
              have HT := HS.out
              rw [show ((i + 1 : Nat) : Int) - 1 = (i : Int) by omega, show i + 1 - 1 = i by omega] at HT
              replace HS := hide HT
              clear HT
              go_upto_region 16 with fail
              dsimp only [List.append]
              go_wp2_with fail
              have r1 := ((q1.set_ 0 (.int .i64 ((i : Int)))).set_ 1 (.int .i64 ((k : Int) + 1))).set_ 2 (.int .i64 (-1))
              simp only [List.set_cons_zero, List.set_cons_succ] at r1
              go_roundw
              case rel => exact ⟨k + 1, i, 0, (((i : Int)), ((k : Int) + 1), (-1)), by omega, by go_num, rfl, HS.out, ((q0.far (by dsimp only; omega) _).far (by dsimp only; omega) _).far (by dsimp only; omega) _, r1, ((hbw6.setCell (by dsimp only; omega) _).setCell (by dsimp only; omega) _).setCell (by dsimp only; omega) _⟩
              case measure => simp [intOf]; omega
        · go_wp2_with fail
          with_reducible refine (awake16 _).mono ?_; rintro e x8 ⟨rfl, hx8⟩
          go_wp2
          go_ret
          exact ⟨rfl, by (repeat (first | with_reducible exact Below.refl _ _ | with_reducible assumption | with_reducible refine Below.drew ?_ | with_reducible refine Below.drewN ?_ _ | with_reducible refine Below.alloc1 ?_ _ | with_reducible refine Below.setCell1 ?_ (by first | omega | (simp; done) | (simp; omega)) _ | with_reducible refine Below.step ?_ (by with_reducible assumption)))⟩
    · have hv' : vCheck up dn hold = 8 ∨ vCheck up dn hold = 10 := by omega
      clear h0 hv
      rcases hv' with h1 | h1
      all_goals
        have H1 := hide h1
        clear h1
        go_enter Try.func5, Try.ntmps5
        go_wp2_with fail
        with_reducible refine (level_Check_is H1.out _).mono ?_; rintro e x0 ⟨rfl, hx0⟩
        go_wp2_with fail
        with_reducible refine (awake16 _).mono ?_; rintro e x1 ⟨rfl, hx1⟩
        go_wp2
        go_ret
        exact ⟨rfl, by (repeat (first | with_reducible exact Below.refl _ _ | with_reducible assumption | with_reducible refine Below.drew ?_ | with_reducible refine Below.drewN ?_ _ | with_reducible refine Below.alloc1 ?_ _ | with_reducible refine Below.setCell1 ?_ (by first | omega | (simp; done) | (simp; omega)) _ | with_reducible refine Below.step ?_ (by with_reducible assumption)))⟩
  · go_enter Try.func5, Try.ntmps5
    go_wp2_with fail
    with_reducible refine (awake16 _).mono ?_; rintro e x1 ⟨rfl, hx1⟩
    go_wp2
    go_ret
    exact ⟨rfl, by (repeat (first | with_reducible exact Below.refl _ _ | with_reducible assumption | with_reducible refine Below.drew ?_ | with_reducible refine Below.drewN ?_ _ | with_reducible refine Below.alloc1 ?_ _ | with_reducible refine Below.setCell1 ?_ (by first | omega | (simp; done) | (simp; omega)) _ | with_reducible refine Below.step ?_ (by with_reducible assumption)))⟩
end Go.Proofs.Ytbajakifkidccaa
