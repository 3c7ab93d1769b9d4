/- The walk of PoolBack. -/
import Derived.Test.YtnmpighdkdffbaaAwake03
import Derived.Test.YtnmpighdkdffbaaPoolP
namespace Go.Proofs.Ytnmpighdkdffbaa
open Go.RowKit Go.Sort
set_option linter.unusedSimpArgs false
set_option linter.unusedVariables false

/-- a state in the block S: it may be, has n cells, none was ever given back -/
structure Young (n : Nat) (l : List Cl) (f : List Int) : Prop where
  ok : Ok l f
  len : l.length = n
  zero : ∀ x ∈ l, x.gen = 0
theorem free_len {l : List Cl} {f : List Int} (h : Ok l f) : f.length ≤ l.length := by rw [h.count]; exact List.countP_le_length
theorem last_of {l : List Cl} {f : List Int} (h : Ok l f) (hf : f ≠ []) : ∃ f0 k, f = f0 ++ [((k : Nat) : Int)] := by
  obtain ⟨f0, p, rfl⟩ : ∃ f0 p, f = f0 ++ [p] := ⟨f.dropLast, f.getLast hf, (List.dropLast_concat_getLast hf).symm⟩
  obtain ⟨a, b, _⟩ := h.good p (by simp)
  exact ⟨f0, p.toNat, by rw [Int.toNat_of_nonneg a]⟩
theorem Young.new (n : Nat) (h1 : 1 ≤ n) (h : n ≤ 64) : Young n (newL n) (downs n n) := ⟨Ok.new n h1 h, by simp, fun x hx => by rw [List.eq_of_mem_replicate hx]⟩
theorem Young.take {n : Nat} {l : List Cl} {f : List Int} (h : Young n l f) (v : Int) : Young n (pTake l f v).1.1 (pTake l f v).1.2 := by
  by_cases hf : f = []
  · subst hf; rw [pTake_full h.ok]; exact h
  · obtain ⟨f0, k, rfl⟩ := last_of h.ok hf
    obtain ⟨hk, a, b, c, d, e⟩ := h.ok.take v
    rw [e]
    refine ⟨d, by simp [h.len], fun x hx => ?_⟩
    rcases mem_set hx with rfl | hx
    · exact h.zero l[k] (List.getElem_mem hk)
    · exact h.zero x hx
theorem back_facts {n : Nat} {l : List Cl} {f : List Int} {k : Nat} (h : Young n l (f ++ [(k : Int)])) (v : Int) : ∃ (l1 l2 l3 : List Cl) (U1 U2 : Nat),
    pTake l (f ++ [(k : Int)]) v = ((l1, f), (k : Int), 0) ∧ pChange giveD l1 f k = ((l2, f ++ [(k : Int)]), 0) ∧ pTake l2 (f ++ [(k : Int)]) v = ((l3, f), (k : Int) + 64, 0) ∧
    pGet l3 f ((k : Int) + 64) = (v, true) ∧ pGet l3 f k = (0, false) ∧ (pHandles l (f ++ [(k : Int)])).length = U1 ∧ (pHandles l2 (f ++ [(k : Int)])).length = U1 ∧ (pHandles l1 f).length = U2 ∧ (pHandles l3 f).length = U2 ∧
    l1.length = n ∧ l2.length = n ∧ l3.length = n ∧ l.length = n ∧ n ≤ 64 ∧ f.length < n ∧ k < 64 := by
  obtain ⟨hk, hd, _, _, ok1, e1⟩ := h.ok.take v
  have hg := h.zero _ (List.getElem_mem hk)
  have hn := h.ok.n
  have hfl := free_len h.ok
  rw [List.length_append, List.length_singleton] at hfl
  rw [hg] at ok1 e1
  have hk1 : k < (l.set k ⟨0, true, v⟩).length := by rw [List.length_set]; exact hk
  have g1 : (l.set k ⟨0, true, v⟩)[k] = ⟨0, true, v⟩ := List.getElem_set_self hk1
  obtain ⟨ok2, e2⟩ := ok1.give hk1 (by rw [g1]) (by rw [g1]; simp only; omega)
  rw [g1, List.set_set] at ok2 e2
  simp only [Int.zero_mul, Int.zero_add] at ok2 e2 e1
  have hk2 : k < (l.set k ⟨1, false, 0⟩).length := by rw [List.length_set]; exact hk
  have g2 : (l.set k ⟨1, false, 0⟩)[k] = ⟨1, false, 0⟩ := List.getElem_set_self hk2
  obtain ⟨_, _, _, _, ok3, e3⟩ := ok2.take v
  rw [g2, List.set_set] at ok3 e3
  simp only at ok3 e3
  have hk3 : k < (l.set k ⟨1, true, v⟩).length := by rw [List.length_set]; exact hk
  have g3 : (l.set k ⟨1, true, v⟩)[k] = ⟨1, true, v⟩ := List.getElem_set_self hk3
  have e4 := get_at ok3 hk3 (by rw [g3])
  rw [g3] at e4
  simp only at e4
  rw [show (1 : Int) * 64 + (k : Int) = (k : Int) + 64 by omega] at e4 e3
  have e5 : pGet (l.set k ⟨1, true, v⟩) f k = (0, false) := get_none (find_none hk3 (by omega) (.inr (by rw [g3]; simp only; omega)))
  have c1 := countP_set1 (·.live) l k hk ⟨0, true, v⟩
  have c2 := countP_set1 (·.live) l k hk ⟨1, false, 0⟩
  have c3 := countP_set1 (·.live) l k hk ⟨1, true, v⟩
  rw [hd] at c1 c2 c3
  simp only [Bool.false_eq_true, if_false, if_true, Nat.add_zero] at c1 c2 c3
  refine ⟨_, _, _, _, _, e1, e2, e3, e4, e5, h.ok.used, by rw [ok2.used, c2], ok1.used, by rw [ok3.used, c3, c1], by rw [List.length_set, h.len], by rw [List.length_set, h.len], by rw [List.length_set, h.len], h.len, by rw [← h.len]; exact hn.2, by rw [← h.len]; omega, by omega⟩

set_option maxRecDepth 100000 in
set_option maxHeartbeats 8000000 in
theorem PoolBack_walk (a b v : Int) (ha : 0 ≤ a ∧ a ≤ 255) (hb : 0 ≤ b ∧ b ≤ 255) (w : World) :
    Calls Try.prog 6 #[.int .u8 a, .int .u8 b, .int .i64 v] w fun e w' => e = .returned (.bool true) ∧ Below w.heap.size w w' := by
  obtain ⟨m, hm⟩ : ∃ m : Nat, a % 64 = m := ⟨(a % 64).toNat, by omega⟩
  obtain ⟨K, hK⟩ : ∃ K : Nat, b % 60 = K := ⟨(b % 60).toNat, by omega⟩
  have hm64 : m < 64 := by omega
  have hK60 : K < 60 := by omega
  have hNew := fun W => pool_New_yes (m + 1) W (by omega) (by omega)
  rw [show ((m + 1 : Nat) : Int) = 1 + m by omega] at hNew
  have HY := hide (Young.new (m + 1) (by omega) (by omega))
  generalize newL (m + 1) = l0 at *
  generalize downs (m + 1) (m + 1) = f0 at *
  go_enter Try.func6, Try.ntmps6
  go_wp2_with fail
  refine (hNew _).mono ?_; rintro e x0 ⟨V0, rfl, s0, hx0⟩
  clear hNew
  obtain ⟨A, c, B, d, rfl, r0⟩ := s0
  replace r0 : StAt x0 (stV A l0.length c B f0.length d) l0 f0 := ⟨A, c, B, d, rfl, r0.1, r0.2.1, r0.2.2.1⟩
  go_wp2_with fail
  generalize hV : World.alloc x0 _ = w1
  have hy : Below x0.heap.size x0 w1 := by subst hV; (repeat (first | with_reducible exact Below.refl _ _ | with_reducible assumption | with_reducible refine Below.drew ?_ | with_reducible refine Below.drewN ?_ _ | with_reducible refine Below.alloc1 ?_ _ | with_reducible refine Below.setCell1 ?_ (by first | omega | (simp; done) | (simp; omega)) _ | with_reducible refine Below.step ?_ (by with_reducible assumption)))
  have k0 : Bk w1 x0.heap.size 30 (stC A l0.length c B f0.length d) := by subst hV; (repeat (first | with_reducible exact Bk.new' _ _ _ _ (by simp; done) | with_reducible assumption | with_reducible refine Bk.alloc ?_ _ | with_reducible refine Bk.drew ?_ | with_reducible refine Bk.drewN ?_ _ | with_reducible refine Bk.step ?_ (by with_reducible assumption) | with_reducible refine Bk.far ?_ (by first | omega | (simp; done) | (simp; omega)) _))
  replace r0 := r0.step hy
  have hb1 : Below w.heap.size w w1 := hx0.then_ hy hx0.size
  have hS : w.heap.size ≤ x0.heap.size := hx0.size
  clear hV hy hx0
  generalize x0.heap.size = S at *
  go_loopw [10] (fun i wr => ∃ (k : Nat) (l : List Cl) (f : List Int) (A : Option Addr) (c : Nat) (B : Option Addr) (d : Nat), k ≤ K ∧ i = .int .i64 k ∧ Hid (Young (m + 1) l f) ∧ Bk wr S 30 (stC A l.length c B f.length d) ∧ StAt wr (stV A l.length c B f.length d) l f ∧ Below w.heap.size w wr) (fun i _ => K - (intOf i).toNat)
  case atStart => exact ⟨0, l0, f0, A, c, B, d, Nat.zero_le _, rfl, HY, k0, r0, hb1⟩
  case round =>
    clear k0 r0 HY hb1
    obtain ⟨k, l, f, A', c', B', d', hk, rfl, HY, j0, r1, hbr⟩ := hrel
    have hl1000 : l.length ≤ 1000 := by have := HY.out.ok.n; omega
    have hf1000 : f.length ≤ 1000 := by have := free_len HY.out.ok; omega
    by_cases hlt : k < K
    · have j0_0 := j0.cell 0; have j0_f0 := j0.frozen 0; have j0_1 := j0.cell 1; have j0_f1 := j0.frozen 1; simp only [List.set_cons_zero, List.set_cons_succ, List.getElem?_cons_zero, List.getElem?_cons_succ] at j0_0 j0_1; have lt_j0 := j0.lt
      have HT := hide (HY.out.take k)
      go_wp2_with fail
      refine (pool_Take_any _ l f k _ hl1000 hf1000 r1).mono ?_; rintro e x1 ⟨V1, rfl, s1, hx1⟩
      generalize pTake l f k = r at *
      obtain ⟨A1, c1, B1, d1, rfl, s1⟩ := s1
      replace s1 : StFr wr.heap.size x1 (stV A1 r.1.1.length c1 B1 r.1.2.length d1) r.1.1 r.1.2 := ⟨A1, c1, B1, d1, rfl, s1⟩
      have hbs : Below w.heap.size w x1 := by (repeat (first | with_reducible exact Below.refl _ _ | with_reducible assumption | with_reducible refine Below.drew ?_ | with_reducible refine Below.drewN ?_ _ | with_reducible refine Below.alloc1 ?_ _ | with_reducible refine Below.setCell1 ?_ (by first | omega | (simp; done) | (simp; omega)) _ | with_reducible refine Below.step ?_ (by with_reducible assumption)))
      have hSw := j0.lt
      replace j0 := j0.step hx1; (try clear j0_0 j0_f0 j0_1 j0_f1); have j0_0 := j0.cell 0; have j0_f0 := j0.frozen 0; have j0_1 := j0.cell 1; have j0_f1 := j0.frozen 1; simp only [List.set_cons_zero, List.set_cons_succ, List.getElem?_cons_zero, List.getElem?_cons_succ] at j0_0 j0_1; (try clear lt_j0); have lt_j0 := j0.lt
      have hSr := hx1.size
      clear hx1 r1
      go_wp2_with fail
      (try clear j0_0 j0_f0 j0_1 j0_f1 lt_j0)
      clear HY
      go_roundw
      case rel => exact ⟨k + 1, r.1.1, r.1.2, A1, c1, B1, d1, by omega, by go_num, HT, (j0.set_ 0 _).set_ 1 _, ((s1.set1 (p := ⟨S, 0, none⟩) (by show S < wr.heap.size; omega) _).set1 (p := ⟨S, 1, none⟩) (by show S < wr.heap.size; omega) _).at_, (hbs.setCell (by dsimp only; omega) _).setCell (by dsimp only; omega) _⟩
      case measure => simp [intOf]; omega
    · have j0_0 := j0.cell 0; have j0_f0 := j0.frozen 0; have j0_1 := j0.cell 1; have j0_f1 := j0.frozen 1; simp only [List.set_cons_zero, List.set_cons_succ, List.getElem?_cons_zero, List.getElem?_cons_succ] at j0_0 j0_1; have lt_j0 := j0.lt
      by_cases hf0 : f = []
      · subst hf0
        have hT := fun (W : World) (h : Below wr.heap.size wr W) => pool_Take_any _ l [] v W hl1000 hf1000 (r1.step h)
        simp only [pTake_full HY.out.ok] at hT
        have hu : (pHandles l []).length = m + 1 := by rw [HY.out.ok.used]; have := HY.out.ok.both (fun x hx => by rw [HY.out.zero x hx]; decide); simp only [List.length_nil] at this; rw [← HY.out.len]; omega
        have hU := fun (W : World) (h : Below wr.heap.size wr W) => (pool_Used_any _ l [] W hl1000 hf1000 (r1.step h)).lit (v' := .int .i64 (1 + (m : Int))) (by rw [hu]; congr 1; omega)
        have hS := fun (V : Value) (W : World) (s : StAt W V l []) (h : Below wr.heap.size wr W) => (pool_Same_any V _ l l [] [] W hl1000 hf1000 s (r1.step h)).lit (v' := .bool true) (by simp)
        have ST := HY.out.ok
        clear HY
        go_wp2_with fail
        refine (hT _ (Below.refl _ _)).mono ?_; rintro e x1 ⟨V1, rfl, s1, hx1⟩
        clear hT
        obtain ⟨A1, c1, B1, d1, rfl, s1⟩ := s1
        replace s1 : StAt x1 (stV A1 l.length c1 B1 0 d1) l [] := ⟨A1, c1, B1, d1, rfl, s1.1, s1.2.1, s1.2.2.1⟩
        have hbs : Below w.heap.size w x1 := by (repeat (first | with_reducible exact Below.refl _ _ | with_reducible assumption | with_reducible refine Below.drew ?_ | with_reducible refine Below.drewN ?_ _ | with_reducible refine Below.alloc1 ?_ _ | with_reducible refine Below.setCell1 ?_ (by first | omega | (simp; done) | (simp; omega)) _ | with_reducible refine Below.step ?_ (by with_reducible assumption)))
        have hbT : Below wr.heap.size wr x1 := hx1
        replace j0 := j0.step hx1; (try clear j0_0 j0_f0 j0_1 j0_f1); have j0_0 := j0.cell 0; have j0_f0 := j0.frozen 0; have j0_1 := j0.cell 1; have j0_f1 := j0.frozen 1; simp only [List.set_cons_zero, List.set_cons_succ, List.getElem?_cons_zero, List.getElem?_cons_succ] at j0_0 j0_1; (try clear lt_j0); have lt_j0 := j0.lt
        clear hx1 r1
        go_wp2_with fail
        generalize hV : World.alloc x1 _ = w2
        have hy : Below x1.heap.size x1 w2 := by subst hV; (repeat (first | with_reducible exact Below.refl _ _ | with_reducible assumption | with_reducible refine Below.drew ?_ | with_reducible refine Below.drewN ?_ _ | with_reducible refine Below.alloc1 ?_ _ | with_reducible refine Below.setCell1 ?_ (by first | omega | (simp; done) | (simp; omega)) _ | with_reducible refine Below.step ?_ (by with_reducible assumption)))
        have j1 : Bk w2 x1.heap.size 30 (stC A1 l.length c1 B1 0 d1) := by subst hV; (repeat (first | with_reducible exact Bk.new' _ _ _ _ (by simp; done) | with_reducible assumption | with_reducible refine Bk.alloc ?_ _ | with_reducible refine Bk.drew ?_ | with_reducible refine Bk.drewN ?_ _ | with_reducible refine Bk.step ?_ (by with_reducible assumption) | with_reducible refine Bk.far ?_ (by first | omega | (simp; done) | (simp; omega)) _))
        replace s1 := s1.step hy
        replace hbs : Below w.heap.size w w2 := by (repeat (first | with_reducible exact Below.refl _ _ | with_reducible assumption | with_reducible refine Below.drew ?_ | with_reducible refine Below.drewN ?_ _ | with_reducible refine Below.alloc1 ?_ _ | with_reducible refine Below.setCell1 ?_ (by first | omega | (simp; done) | (simp; omega)) _ | with_reducible refine Below.step ?_ (by with_reducible assumption)))
        replace hbT : Below wr.heap.size wr w2 := hbT.step hy
        clear hV
        replace j0 := j0.step hy; (try clear j0_0 j0_f0 j0_1 j0_f1); have j0_0 := j0.cell 0; have j0_f0 := j0.frozen 0; have j0_1 := j0.cell 1; have j0_f1 := j0.frozen 1; simp only [List.set_cons_zero, List.set_cons_succ, List.getElem?_cons_zero, List.getElem?_cons_succ] at j0_0 j0_1; (try clear lt_j0); have lt_j0 := j0.lt
        have j1_0 := j1.cell 0; have j1_f0 := j1.frozen 0; have j1_1 := j1.cell 1; have j1_f1 := j1.frozen 1; simp only [List.set_cons_zero, List.set_cons_succ, List.getElem?_cons_zero, List.getElem?_cons_succ] at j1_0 j1_1; have lt_j1 := j1.lt
        clear hy
        refine (hU _ hbT).mono ?_; rintro e x3 ⟨rfl, hx3⟩
        replace s1 := s1.step hx3
        replace hbs : Below w.heap.size w x3 := by (repeat (first | with_reducible exact Below.refl _ _ | with_reducible assumption | with_reducible refine Below.drew ?_ | with_reducible refine Below.drewN ?_ _ | with_reducible refine Below.alloc1 ?_ _ | with_reducible refine Below.setCell1 ?_ (by first | omega | (simp; done) | (simp; omega)) _ | with_reducible refine Below.step ?_ (by with_reducible assumption)))
        replace hbT : Below wr.heap.size wr x3 := hbT.step hx3
        replace j0 := j0.step hx3; (try clear j0_0 j0_f0 j0_1 j0_f1); have j0_0 := j0.cell 0; have j0_f0 := j0.frozen 0; have j0_1 := j0.cell 1; have j0_f1 := j0.frozen 1; simp only [List.set_cons_zero, List.set_cons_succ, List.getElem?_cons_zero, List.getElem?_cons_succ] at j0_0 j0_1; (try clear lt_j0); have lt_j0 := j0.lt; replace j1 := j1.step hx3; (try clear j1_0 j1_f0 j1_1 j1_f1); have j1_0 := j1.cell 0; have j1_f0 := j1.frozen 0; have j1_1 := j1.cell 1; have j1_f1 := j1.frozen 1; simp only [List.set_cons_zero, List.set_cons_succ, List.getElem?_cons_zero, List.getElem?_cons_succ] at j1_0 j1_1; (try clear lt_j1); have lt_j1 := j1.lt
        clear hx3
        go_wp2_with fail
        refine (hS _ _ s1 hbT).mono ?_; rintro e x4 ⟨rfl, hx4⟩
        replace hbs : Below w.heap.size w x4 := by (repeat (first | with_reducible exact Below.refl _ _ | with_reducible assumption | with_reducible refine Below.drew ?_ | with_reducible refine Below.drewN ?_ _ | with_reducible refine Below.alloc1 ?_ _ | with_reducible refine Below.setCell1 ?_ (by first | omega | (simp; done) | (simp; omega)) _ | with_reducible refine Below.step ?_ (by with_reducible assumption)))
        clear hx4 hbT
        go_wp2_with fail
        refine (awake03 _).mono ?_; rintro e x5 ⟨rfl, hx5⟩
        go_wp2
        go_ret
        exact ⟨rfl, by (repeat (first | with_reducible exact Below.refl _ _ | with_reducible assumption | with_reducible refine Below.drew ?_ | with_reducible refine Below.drewN ?_ _ | with_reducible refine Below.alloc1 ?_ _ | with_reducible refine Below.setCell1 ?_ (by first | omega | (simp; done) | (simp; omega)) _ | with_reducible refine Below.step ?_ (by with_reducible assumption)))⟩
      · obtain ⟨f1, q, rfl⟩ := last_of HY.out.ok hf0
        obtain ⟨l1, l2, l3, U1, U2, e1, e2, e3, e4, e5, u1, u2, u3, u4, n1, n2, n3, n0, n64, fl, hq⟩ := back_facts HY.out v
        clear hf0 HY
        have q1 : l1.length ≤ 1000 := by omega
        have q2 : l2.length ≤ 1000 := by omega
        have q3 : l3.length ≤ 1000 := by omega
        have q4 : f1.length ≤ 1000 := by omega
        clear n0 n1 n2 n3 n64 fl
        have hU0 := fun (W : World) (s : StAt W (stV A' l.length c' B' (f1 ++ [(q : Int)]).length d') l (f1 ++ [(q : Int)])) => (pool_Used_any _ l _ W hl1000 hf1000 s)
        have hT1 := fun (W : World) s => pool_Take_any (stV A' l.length c' B' (f1 ++ [(q : Int)]).length d') l (f1 ++ [(q : Int)]) v W hl1000 hf1000 s
        have hG := fun (V : Value) (W : World) s => pool_Give_any V l1 f1 q W (by omega) (by omega) (by omega) s
        have hT2 := fun (V : Value) (W : World) s => pool_Take_any V l2 (f1 ++ [(q : Int)]) v W (by omega) hf1000 s
        have hE1 := fun (V : Value) (W : World) s => pool_Get_any V l3 f1 ((q : Int) + 64) W (by omega) (by omega) (by omega) s
        have hE2 := fun (V : Value) (W : World) s => pool_Get_any V l3 f1 q W (by omega) (by omega) (by omega) s
        have hUx := fun (V : Value) (W : World) s => pool_Used_any V l1 f1 W (by omega) (by omega) s
        have hUy := fun (V : Value) (W : World) s => pool_Used_any V l2 (f1 ++ [(q : Int)]) W (by omega) hf1000 s
        have hUz := fun (V : Value) (W : World) s => pool_Used_any V l3 f1 W (by omega) (by omega) s
        simp only [e1] at hT1
        simp only [e2] at hG
        simp only [e3] at hT2
        simp only [e4] at hE1
        simp only [e5] at hE2
        simp only [u1] at hU0
        simp only [u2] at hUy
        simp only [u3] at hUx
        simp only [u4] at hUz
        clear e1 e2 e3 e4 e5 u1 u2 u3 u4
        generalize hF : f1 ++ [(q : Int)] = F at *
        have hbs : Below w.heap.size w wr := hbr
        clear hF hbr
        go_wp2_with fail
        with_reducible refine (hT1 _ r1).mono ?_; rintro e y1 ⟨V1, rfl, s1, hx1⟩
        obtain ⟨A1, c1, B1, d1, rfl, s1⟩ := s1
        replace s1 : StAt y1 (stV A1 l1.length c1 B1 f1.length d1) l1 f1 := ⟨A1, c1, B1, d1, rfl, s1.1, s1.2.1, s1.2.2.1⟩
        replace hbs : Below w.heap.size w y1 := hbs.step hx1
        replace j0 := j0.step hx1; (try clear j0_0 j0_f0 j0_1 j0_f1); have j0_0 := j0.cell 0; have j0_f0 := j0.frozen 0; have j0_1 := j0.cell 1; have j0_f1 := j0.frozen 1; simp only [List.set_cons_zero, List.set_cons_succ, List.getElem?_cons_zero, List.getElem?_cons_succ] at j0_0 j0_1; (try clear lt_j0); have lt_j0 := j0.lt
        replace r1 := r1.step hx1
        clear hx1
        go_wp2_with fail
        generalize hV : World.alloc y1 _ = z1
        have hy : Below y1.heap.size y1 z1 := by subst hV; (repeat (first | with_reducible exact Below.refl _ _ | with_reducible assumption | with_reducible refine Below.drew ?_ | with_reducible refine Below.drewN ?_ _ | with_reducible refine Below.alloc1 ?_ _ | with_reducible refine Below.setCell1 ?_ (by first | omega | (simp; done) | (simp; omega)) _ | with_reducible refine Below.step ?_ (by with_reducible assumption)))
        have j1 : Bk z1 y1.heap.size 30 (stC A1 l1.length c1 B1 f1.length d1) := by subst hV; (repeat (first | with_reducible exact Bk.new' _ _ _ _ (by simp; done) | with_reducible assumption | with_reducible refine Bk.alloc ?_ _ | with_reducible refine Bk.drew ?_ | with_reducible refine Bk.drewN ?_ _ | with_reducible refine Bk.step ?_ (by with_reducible assumption) | with_reducible refine Bk.far ?_ (by first | omega | (simp; done) | (simp; omega)) _))
        have t1 := s1.step hy
        replace hbs : Below w.heap.size w z1 := hbs.step hy
        clear hV s1
        replace j0 := j0.step hy; (try clear j0_0 j0_f0 j0_1 j0_f1); have j0_0 := j0.cell 0; have j0_f0 := j0.frozen 0; have j0_1 := j0.cell 1; have j0_f1 := j0.frozen 1; simp only [List.set_cons_zero, List.set_cons_succ, List.getElem?_cons_zero, List.getElem?_cons_succ] at j0_0 j0_1; (try clear lt_j0); have lt_j0 := j0.lt
        replace r1 := r1.step hy
        have j1_0 := j1.cell 0; have j1_f0 := j1.frozen 0; have j1_1 := j1.cell 1; have j1_f1 := j1.frozen 1; simp only [List.set_cons_zero, List.set_cons_succ, List.getElem?_cons_zero, List.getElem?_cons_succ] at j1_0 j1_1; have lt_j1 := j1.lt
        clear hy
        go_wp2_with fail
        with_reducible refine (hG _ _ t1).mono ?_; rintro e y2 ⟨V1, rfl, s1, hx1⟩
        obtain ⟨A2, c2, B2, d2, rfl, s1⟩ := s1
        replace s1 : StAt y2 (stV A2 l2.length c2 B2 F.length d2) l2 F := ⟨A2, c2, B2, d2, rfl, s1.1, s1.2.1, s1.2.2.1⟩
        replace hbs : Below w.heap.size w y2 := hbs.step hx1
        replace j0 := j0.step hx1; (try clear j0_0 j0_f0 j0_1 j0_f1); have j0_0 := j0.cell 0; have j0_f0 := j0.frozen 0; have j0_1 := j0.cell 1; have j0_f1 := j0.frozen 1; simp only [List.set_cons_zero, List.set_cons_succ, List.getElem?_cons_zero, List.getElem?_cons_succ] at j0_0 j0_1; (try clear lt_j0); have lt_j0 := j0.lt; replace j1 := j1.step hx1; (try clear j1_0 j1_f0 j1_1 j1_f1); have j1_0 := j1.cell 0; have j1_f0 := j1.frozen 0; have j1_1 := j1.cell 1; have j1_f1 := j1.frozen 1; simp only [List.set_cons_zero, List.set_cons_succ, List.getElem?_cons_zero, List.getElem?_cons_succ] at j1_0 j1_1; (try clear lt_j1); have lt_j1 := j1.lt
        replace r1 := r1.step hx1; replace t1 := t1.step hx1
        clear hx1
        go_wp2_with fail
        generalize hV : World.alloc y2 _ = z2
        have hy : Below y2.heap.size y2 z2 := by subst hV; (repeat (first | with_reducible exact Below.refl _ _ | with_reducible assumption | with_reducible refine Below.drew ?_ | with_reducible refine Below.drewN ?_ _ | with_reducible refine Below.alloc1 ?_ _ | with_reducible refine Below.setCell1 ?_ (by first | omega | (simp; done) | (simp; omega)) _ | with_reducible refine Below.step ?_ (by with_reducible assumption)))
        have j2 : Bk z2 y2.heap.size 30 (stC A2 l2.length c2 B2 F.length d2) := by subst hV; (repeat (first | with_reducible exact Bk.new' _ _ _ _ (by simp; done) | with_reducible assumption | with_reducible refine Bk.alloc ?_ _ | with_reducible refine Bk.drew ?_ | with_reducible refine Bk.drewN ?_ _ | with_reducible refine Bk.step ?_ (by with_reducible assumption) | with_reducible refine Bk.far ?_ (by first | omega | (simp; done) | (simp; omega)) _))
        have t2 := s1.step hy
        replace hbs : Below w.heap.size w z2 := hbs.step hy
        clear hV s1
        replace j0 := j0.step hy; (try clear j0_0 j0_f0 j0_1 j0_f1); have j0_0 := j0.cell 0; have j0_f0 := j0.frozen 0; have j0_1 := j0.cell 1; have j0_f1 := j0.frozen 1; simp only [List.set_cons_zero, List.set_cons_succ, List.getElem?_cons_zero, List.getElem?_cons_succ] at j0_0 j0_1; (try clear lt_j0); have lt_j0 := j0.lt; replace j1 := j1.step hy; (try clear j1_0 j1_f0 j1_1 j1_f1); have j1_0 := j1.cell 0; have j1_f0 := j1.frozen 0; have j1_1 := j1.cell 1; have j1_f1 := j1.frozen 1; simp only [List.set_cons_zero, List.set_cons_succ, List.getElem?_cons_zero, List.getElem?_cons_succ] at j1_0 j1_1; (try clear lt_j1); have lt_j1 := j1.lt
        replace r1 := r1.step hy; replace t1 := t1.step hy
        have j2_0 := j2.cell 0; have j2_f0 := j2.frozen 0; have j2_1 := j2.cell 1; have j2_f1 := j2.frozen 1; simp only [List.set_cons_zero, List.set_cons_succ, List.getElem?_cons_zero, List.getElem?_cons_succ] at j2_0 j2_1; have lt_j2 := j2.lt
        clear hy
        go_wp2_with fail
        with_reducible refine (hT2 _ _ t2).mono ?_; rintro e y3 ⟨V1, rfl, s1, hx1⟩
        obtain ⟨A3, c3, B3, d3, rfl, s1⟩ := s1
        replace s1 : StAt y3 (stV A3 l3.length c3 B3 f1.length d3) l3 f1 := ⟨A3, c3, B3, d3, rfl, s1.1, s1.2.1, s1.2.2.1⟩
        replace hbs : Below w.heap.size w y3 := hbs.step hx1
        replace j0 := j0.step hx1; (try clear j0_0 j0_f0 j0_1 j0_f1); have j0_0 := j0.cell 0; have j0_f0 := j0.frozen 0; have j0_1 := j0.cell 1; have j0_f1 := j0.frozen 1; simp only [List.set_cons_zero, List.set_cons_succ, List.getElem?_cons_zero, List.getElem?_cons_succ] at j0_0 j0_1; (try clear lt_j0); have lt_j0 := j0.lt; replace j1 := j1.step hx1; (try clear j1_0 j1_f0 j1_1 j1_f1); have j1_0 := j1.cell 0; have j1_f0 := j1.frozen 0; have j1_1 := j1.cell 1; have j1_f1 := j1.frozen 1; simp only [List.set_cons_zero, List.set_cons_succ, List.getElem?_cons_zero, List.getElem?_cons_succ] at j1_0 j1_1; (try clear lt_j1); have lt_j1 := j1.lt; replace j2 := j2.step hx1; (try clear j2_0 j2_f0 j2_1 j2_f1); have j2_0 := j2.cell 0; have j2_f0 := j2.frozen 0; have j2_1 := j2.cell 1; have j2_f1 := j2.frozen 1; simp only [List.set_cons_zero, List.set_cons_succ, List.getElem?_cons_zero, List.getElem?_cons_succ] at j2_0 j2_1; (try clear lt_j2); have lt_j2 := j2.lt
        replace r1 := r1.step hx1; replace t1 := t1.step hx1; replace t2 := t2.step hx1
        clear hx1
        go_wp2_with fail
        generalize hV : World.alloc y3 _ = z3
        have hy : Below y3.heap.size y3 z3 := by subst hV; (repeat (first | with_reducible exact Below.refl _ _ | with_reducible assumption | with_reducible refine Below.drew ?_ | with_reducible refine Below.drewN ?_ _ | with_reducible refine Below.alloc1 ?_ _ | with_reducible refine Below.setCell1 ?_ (by first | omega | (simp; done) | (simp; omega)) _ | with_reducible refine Below.step ?_ (by with_reducible assumption)))
        have j3 : Bk z3 y3.heap.size 30 (stC A3 l3.length c3 B3 f1.length d3) := by subst hV; (repeat (first | with_reducible exact Bk.new' _ _ _ _ (by simp; done) | with_reducible assumption | with_reducible refine Bk.alloc ?_ _ | with_reducible refine Bk.drew ?_ | with_reducible refine Bk.drewN ?_ _ | with_reducible refine Bk.step ?_ (by with_reducible assumption) | with_reducible refine Bk.far ?_ (by first | omega | (simp; done) | (simp; omega)) _))
        have t3 := s1.step hy
        replace hbs : Below w.heap.size w z3 := hbs.step hy
        clear hV s1
        replace j0 := j0.step hy; (try clear j0_0 j0_f0 j0_1 j0_f1); have j0_0 := j0.cell 0; have j0_f0 := j0.frozen 0; have j0_1 := j0.cell 1; have j0_f1 := j0.frozen 1; simp only [List.set_cons_zero, List.set_cons_succ, List.getElem?_cons_zero, List.getElem?_cons_succ] at j0_0 j0_1; (try clear lt_j0); have lt_j0 := j0.lt; replace j1 := j1.step hy; (try clear j1_0 j1_f0 j1_1 j1_f1); have j1_0 := j1.cell 0; have j1_f0 := j1.frozen 0; have j1_1 := j1.cell 1; have j1_f1 := j1.frozen 1; simp only [List.set_cons_zero, List.set_cons_succ, List.getElem?_cons_zero, List.getElem?_cons_succ] at j1_0 j1_1; (try clear lt_j1); have lt_j1 := j1.lt; replace j2 := j2.step hy; (try clear j2_0 j2_f0 j2_1 j2_f1); have j2_0 := j2.cell 0; have j2_f0 := j2.frozen 0; have j2_1 := j2.cell 1; have j2_f1 := j2.frozen 1; simp only [List.set_cons_zero, List.set_cons_succ, List.getElem?_cons_zero, List.getElem?_cons_succ] at j2_0 j2_1; (try clear lt_j2); have lt_j2 := j2.lt
        replace r1 := r1.step hy; replace t1 := t1.step hy; replace t2 := t2.step hy
        have j3_0 := j3.cell 0; have j3_f0 := j3.frozen 0; have j3_1 := j3.cell 1; have j3_f1 := j3.frozen 1; simp only [List.set_cons_zero, List.set_cons_succ, List.getElem?_cons_zero, List.getElem?_cons_succ] at j3_0 j3_1; have lt_j3 := j3.lt
        clear hy
        go_wp2_with fail
        with_reducible refine (hE1 _ _ t3).mono ?_; rintro e y4 ⟨rfl, hx1⟩
        replace hbs : Below w.heap.size w y4 := hbs.step hx1
        replace j0 := j0.step hx1; (try clear j0_0 j0_f0 j0_1 j0_f1); have j0_0 := j0.cell 0; have j0_f0 := j0.frozen 0; have j0_1 := j0.cell 1; have j0_f1 := j0.frozen 1; simp only [List.set_cons_zero, List.set_cons_succ, List.getElem?_cons_zero, List.getElem?_cons_succ] at j0_0 j0_1; (try clear lt_j0); have lt_j0 := j0.lt; replace j1 := j1.step hx1; (try clear j1_0 j1_f0 j1_1 j1_f1); have j1_0 := j1.cell 0; have j1_f0 := j1.frozen 0; have j1_1 := j1.cell 1; have j1_f1 := j1.frozen 1; simp only [List.set_cons_zero, List.set_cons_succ, List.getElem?_cons_zero, List.getElem?_cons_succ] at j1_0 j1_1; (try clear lt_j1); have lt_j1 := j1.lt; replace j2 := j2.step hx1; (try clear j2_0 j2_f0 j2_1 j2_f1); have j2_0 := j2.cell 0; have j2_f0 := j2.frozen 0; have j2_1 := j2.cell 1; have j2_f1 := j2.frozen 1; simp only [List.set_cons_zero, List.set_cons_succ, List.getElem?_cons_zero, List.getElem?_cons_succ] at j2_0 j2_1; (try clear lt_j2); have lt_j2 := j2.lt; replace j3 := j3.step hx1; (try clear j3_0 j3_f0 j3_1 j3_f1); have j3_0 := j3.cell 0; have j3_f0 := j3.frozen 0; have j3_1 := j3.cell 1; have j3_f1 := j3.frozen 1; simp only [List.set_cons_zero, List.set_cons_succ, List.getElem?_cons_zero, List.getElem?_cons_succ] at j3_0 j3_1; (try clear lt_j3); have lt_j3 := j3.lt
        replace r1 := r1.step hx1; replace t1 := t1.step hx1; replace t2 := t2.step hx1; replace t3 := t3.step hx1
        clear hx1
        go_wp2_with fail
        with_reducible refine (hE2 _ _ t3).mono ?_; rintro e y5 ⟨rfl, hx1⟩
        replace hbs : Below w.heap.size w y5 := hbs.step hx1
        replace j0 := j0.step hx1; (try clear j0_0 j0_f0 j0_1 j0_f1); have j0_0 := j0.cell 0; have j0_f0 := j0.frozen 0; have j0_1 := j0.cell 1; have j0_f1 := j0.frozen 1; simp only [List.set_cons_zero, List.set_cons_succ, List.getElem?_cons_zero, List.getElem?_cons_succ] at j0_0 j0_1; (try clear lt_j0); have lt_j0 := j0.lt; replace j1 := j1.step hx1; (try clear j1_0 j1_f0 j1_1 j1_f1); have j1_0 := j1.cell 0; have j1_f0 := j1.frozen 0; have j1_1 := j1.cell 1; have j1_f1 := j1.frozen 1; simp only [List.set_cons_zero, List.set_cons_succ, List.getElem?_cons_zero, List.getElem?_cons_succ] at j1_0 j1_1; (try clear lt_j1); have lt_j1 := j1.lt; replace j2 := j2.step hx1; (try clear j2_0 j2_f0 j2_1 j2_f1); have j2_0 := j2.cell 0; have j2_f0 := j2.frozen 0; have j2_1 := j2.cell 1; have j2_f1 := j2.frozen 1; simp only [List.set_cons_zero, List.set_cons_succ, List.getElem?_cons_zero, List.getElem?_cons_succ] at j2_0 j2_1; (try clear lt_j2); have lt_j2 := j2.lt; replace j3 := j3.step hx1; (try clear j3_0 j3_f0 j3_1 j3_f1); have j3_0 := j3.cell 0; have j3_f0 := j3.frozen 0; have j3_1 := j3.cell 1; have j3_f1 := j3.frozen 1; simp only [List.set_cons_zero, List.set_cons_succ, List.getElem?_cons_zero, List.getElem?_cons_succ] at j3_0 j3_1; (try clear lt_j3); have lt_j3 := j3.lt
        replace r1 := r1.step hx1; replace t1 := t1.step hx1; replace t2 := t2.step hx1; replace t3 := t3.step hx1
        clear hx1
        clear hT1 hG hT2 hE1 hE2
        go_wp2_with fail
        (refine wp_region_qb (by kernel_rfl) (by kernel_rfl) (fun kq => ?_); (try dsimp only [List.append]); (repeat (go_big_quiet_step ((first | (go_at_call 24; first | exact (hU0 _ (r1.step (below_regrown _ _ _))).qb | exact (hUx _ _ (t1.step (below_regrown _ _ _))).qb | exact (hUy _ _ (t2.step (below_regrown _ _ _))).qb | exact (hUz _ _ (t3.step (below_regrown _ _ _))).qb) | (go_at_call 8; exact (awake03 _).qb))))); refine wpQuiet_nil ?_; intro wq hwq; have hbq := below_of_class hwq; clear hwq kq)
        go_wp2
        go_ret
        exact ⟨rfl, hbs.step hbq⟩
end Go.Proofs.Ytnmpighdkdffbaa
