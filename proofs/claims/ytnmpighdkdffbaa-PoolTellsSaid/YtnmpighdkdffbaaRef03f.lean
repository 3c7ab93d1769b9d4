/- Package callboyref03: Set. -/
import Derived.Test.YtnmpighdkdffbaaRef03e
namespace Go.Proofs.Ytnmpighdkdffbaa
open Go.RowKit Go.Sort
set_option linter.unusedSimpArgs false
set_option linter.unusedVariables false

/-- a state whose cells are new -/
def WithAt (lo n : Nat) (B : Option Addr) (m d : Nat) (xs : List Value) : MSp := ⟨fun v => ∃ A c, v = stV A n c B m d, fun v w => ∃ A c, v = stV A n c B m d ∧ Rd w w.heap.size A xs ∧ Fr lo A⟩
theorem sts_with (lo n : Nat) (B : Option Addr) (m d : Nat) (xs : List Value) : ∀ v, Stays ((WithAt lo n B m d xs).S v) := fun v w w' ⟨A, c, e, h, hf⟩ hb => ⟨A, c, e, h.step hb, hf⟩
theorem with_of {lo n : Nat} {B : Option Addr} {m d : Nat} {xs : List Value} {A : Option Addr} {c : Nat} {w : World} (h : (WithAt lo n B m d xs).S (stV A n c B m d) w) : Rd w w.heap.size A xs ∧ Fr lo A := by
  obtain ⟨A', c', e, h, hf⟩ := h
  have e1 : A = A' := by simp only [stV, Value.agg.injEq, Array.mk.injEq, List.cons.injEq, Value.slice.injEq] at e; exact e.1.1
  subst e1
  exact ⟨h, hf⟩
theorem with_m {args : Array Value} {f : FuncId} {w : World} {n : Nat} {B : Option Addr} {m d lo : Nat} {xs : List Value} (hlo : lo ≤ w.heap.size) (h : Calls Try.prog f args w fun e w' => ∃ A' c', e = .returned (stV A' n c' B m d) ∧ Rd w' w'.heap.size A' xs ∧ Fr w.heap.size A' ∧ Below w.heap.size w w') : Calls Try.prog f args w (mPost (WithAt lo n B m d xs) w) :=
  h.mono fun _ _ ⟨A, c, he, hr, hf, hb⟩ => ⟨_, he, ⟨A, c, rfl⟩, ⟨A, c, rfl, hr, hf.mono hlo⟩, hb⟩

set_option maxRecDepth 100000 in
set_option maxHeartbeats 8000000 in
theorem rSet_any (A B : Option Addr) (c d : Nat) (l : List Cl) (f : List Int) (h v : Int) (w : World) (hl : l.length ≤ 1000) (hf : f.length ≤ 1000) (hd : f.length ≤ d) (ha : Rd w w.heap.size A (cls l)) (hb : Rd w w.heap.size B (ints f)) :
    Calls Try.prog 15 #[stV A l.length c B f.length d, .int .i64 h, .int .i64 v] w fun e w' => ∃ V', e = .returned (.tuple #[V', .int .i64 (pChange (setD v) l f h).2]) ∧ StAt w' V' (pChange (setD v) l f h).1.1 (pChange (setD v) l f h).1.2 ∧ Below w.heap.size w w' := by
  have hC := fun (W : World) (h' : Below w.heap.size w W) => rCheck_any A B c d l f W hl hf ((ha.below h').more h'.size) ((hb.below h').more h'.size)
  have hP0 := fun (W : World) (h' : Below w.heap.size w W) => rplace_some A B c d l f.length h W hl ((ha.below h').more h'.size)
  go_enter Try.func15, Try.ntmps15
  go_wp2_with fail
  generalize hV : World.alloc (World.alloc w _) _ = w1
  have hb1 : Below w.heap.size w w1 := by subst hV; (repeat (first | with_reducible exact Below.refl _ _ | with_reducible assumption | with_reducible refine Below.drew ?_ | with_reducible refine Below.drewN ?_ _ | with_reducible refine Below.alloc1 ?_ _ | with_reducible refine Below.setCell1 ?_ (by first | omega | (simp; done) | (simp; omega)) _ | with_reducible refine Below.step ?_ (by with_reducible assumption)))
  have k0 : Bk w1 w.heap.size 25 (stC A l.length c B f.length d) := by subst hV; (repeat (first | with_reducible exact Bk.new' _ _ _ _ (by simp; done) | with_reducible assumption | with_reducible refine Bk.alloc ?_ _ | with_reducible refine Bk.drew ?_ | with_reducible refine Bk.drewN ?_ _ | with_reducible refine Bk.step ?_ (by with_reducible assumption) | with_reducible refine Bk.far ?_ (by first | omega | (simp; done) | (simp; omega)) _))
  have k1 : Bk w1 (w.heap.size + 1) 25 (stC none 0 0 none 0 0) := by subst hV; (repeat (first | with_reducible exact Bk.new' _ _ _ _ (by simp; done) | with_reducible assumption | with_reducible refine Bk.alloc ?_ _ | with_reducible refine Bk.drew ?_ | with_reducible refine Bk.drewN ?_ _ | with_reducible refine Bk.step ?_ (by with_reducible assumption) | with_reducible refine Bk.far ?_ (by first | omega | (simp; done) | (simp; omega)) _))
  clear hV
  refine (hC _ hb1).mono ?_; rintro e x0 ⟨rfl, hx0⟩
  replace k0 := k0.step hx0
  replace k1 := k1.step hx0
  replace hb1 : Below w.heap.size w x0 := hb1.step hx0
  clear hx0 hC
  have k0_0 := k0.cell 0; have k0_f0 := k0.frozen 0; have k0_1 := k0.cell 1; have k0_f1 := k0.frozen 1; simp only [List.set_cons_zero, List.set_cons_succ, List.getElem?_cons_zero, List.getElem?_cons_succ] at k0_0 k0_1; have lt_k0 := k0.lt; have k1_0 := k1.cell 0; have k1_f0 := k1.frozen 0; have k1_1 := k1.cell 1; have k1_f1 := k1.frozen 1; simp only [List.set_cons_zero, List.set_cons_succ, List.getElem?_cons_zero, List.getElem?_cons_succ] at k1_0 k1_1; have lt_k1 := k1.lt
  go_wp2_with fail
  by_cases he : pCheck l f = 0
  · have ok := ok_of he
    refine (rplace_any A B c d l f.length h x0 ok.n.2 ok.gen ((ha.below hb1).more hb1.size)).mono ?_; rintro e x2 ⟨rfl, hx2⟩
    replace k0 := k0.step hx2; (try clear k0_0 k0_f0 k0_1 k0_f1); have k0_0 := k0.cell 0; have k0_f0 := k0.frozen 0; have k0_1 := k0.cell 1; have k0_f1 := k0.frozen 1; simp only [List.set_cons_zero, List.set_cons_succ, List.getElem?_cons_zero, List.getElem?_cons_succ] at k0_0 k0_1; (try clear lt_k0); have lt_k0 := k0.lt; replace k1 := k1.step hx2; (try clear k1_0 k1_f0 k1_1 k1_f1); have k1_0 := k1.cell 0; have k1_f0 := k1.frozen 0; have k1_1 := k1.cell 1; have k1_f1 := k1.frozen 1; simp only [List.set_cons_zero, List.set_cons_succ, List.getElem?_cons_zero, List.getElem?_cons_succ] at k1_0 k1_1; (try clear lt_k1); have lt_k1 := k1.lt
    replace hb1 : Below w.heap.size w x2 := hb1.step hx2
    clear hx2 hP0
    rcases rPlace_cases l h with ⟨hf0, e1⟩ | ⟨hf1, q, hq, e1, e2, e3⟩
    · have hr := change_no (D := setD v) he hf0
      rw [e1]
      rw [he]
      clear ok e1 hf0 he
      go_wp2_with fail
      (try clear k0_0 k0_f0 k0_1 k0_f1 lt_k0) ; (try clear k1_0 k1_f0 k1_1 k1_f1 lt_k1)
      generalize hV : World.setCell (World.setCell x2 _ _) _ _ = w4
      have hb4 : Below w.heap.size w w4 := by subst hV; exact (hb1.setCell (by dsimp only; omega) _).setCell (by dsimp only; omega) _
      replace k1 : Bk w4 (w.heap.size + 1) 25 (stC A l.length c B f.length d) := by subst hV; exact (k1.set_ 0 _).set_ 1 _
      clear hV
      have k1_0 := k1.cell 0; have k1_f0 := k1.frozen 0; have k1_1 := k1.cell 1; have k1_f1 := k1.frozen 1; simp only [List.set_cons_zero, List.set_cons_succ, List.getElem?_cons_zero, List.getElem?_cons_succ] at k1_0 k1_1; have lt_k1 := k1.lt
      exact bodyPost_ret (v := .tuple #[stV A l.length c B f.length d, .int .i64 6]) (by simp only [results, Try.results15]; go_simp) rfl ⟨_, by rw [hr], by rw [hr]; exact ⟨A, c, B, d, rfl, hd, (ha.below hb4).more hb4.size, (hb.below hb4).more hb4.size⟩, hb4⟩
    · have hr := change_yes (D := setD v) he hf1 e2
      have hgd : setD v l f q = (l.set q ⟨l[q].gen, true, v⟩, f) := by unfold setD; rw [getD_at _ _ hq, e3]
      rw [hgd] at hr
      rw [e1]
      rw [he]
      obtain ⟨ad, rfl, hadb, c1, c2, c3⟩ := (ha.below hb1).cl hq
      clear ok e1 e2 e3 hf1 he hgd
      have HR := hide hr
      clear hr
      generalize l[q] = x at *
      generalize x.gen = g at *
      have q0 : ¬ (q : Int) < 0 := by omega
      have i1 : (q : Int) < (l.length : Int) := by omega
      go_wp2_with fail
      have hadj : (ad.add (q * 3)).block < x2.heap.size := by rw [add_block]; have := hb1.size; omega
      have hcg : ∀ (d : Nat) (os : Array Obj), (Go.Sort.grow (redrawn x2 d) os).cell? (ad.add (q * 3)) = some (.int .i64 g) := fun d os => ((below_regrown x2 d os).cell hadj).trans c1
      refine wp_region_mt 11 [(10, WithAt x2.heap.size l.length B f.length d (cls (l.set q ⟨g, true, v⟩)))] (by kernel_rfl) (by kernel_rfl) (by kernel_rfl) (by kernel_rfl) (sts_cons (sts_with _ _ _ _ _ _) sts_nil) (fun kq => ?_); (try dsimp only [List.append, List.take])
      (repeat (refine wpM_via (by kernel_rfl) ?_; go_big_quiet_step (fail); refine wpQuiet_nil ?_))
      (refine wpM_spec _ (WithAt x2.heap.size l.length B f.length d (cls (l.set q ⟨g, true, v⟩))) (by kernel_rfl) (by kernel_rfl) rfl (later_some _) ?_ ?_; (focus (intro x hx hk; obtain ⟨px, rfl⟩ := hx; go_simp; (first | with_reducible refine mUpon_enter ?_ | with_reducible refine mUpon_value ?_); go_at_call 32; exact with_m (below_regrown x2 _ _).size (rwith_any (some ad) B c d l f.length q ⟨g, true, v⟩ _ hl hq (((ha.below hb1).more hb1.size).step (below_regrown x2 _ _))))); intro v hv K hK; obtain ⟨A', c', rfl⟩ := hv; go_big_quiet_op; refine hK _ ?_; clear hK K)
      (repeat (refine wpM_via (by kernel_rfl) ?_; go_big_quiet_step (fail); refine wpQuiet_nil ?_))
      refine wpM_nil ?_; intro wq hwq hfq; have hbq := below_of_class hwq; clear hwq kq; (try dsimp only [List.drop])
      have hw := with_of (lo := x2.heap.size) hfq.1
      have lk1 : w.heap.size + 1 < x2.heap.size := lt_k1
      have hb4 : Below w.heap.size w wq := hb1.step hbq
      replace k1 := k1.step hbq; (try clear k1_0 k1_f0 k1_1 k1_f1); have k1_0 := k1.cell 0; have k1_f0 := k1.frozen 0; have k1_1 := k1.cell 1; have k1_f1 := k1.frozen 1; simp only [List.set_cons_zero, List.set_cons_succ, List.getElem?_cons_zero, List.getElem?_cons_succ] at k1_0 k1_1; (try clear lt_k1); have lt_k1 := k1.lt
      (try clear k0_0 k0_f0 k0_1 k0_f1 lt_k0)
      clear hfq hbq k0 c1 c2 c3
      obtain ⟨r1, hfr⟩ := hw
      go_wp2_with fail
      (try clear k1_0 k1_f0 k1_1 k1_f1 lt_k1)
      generalize hV : World.setCell (World.setCell wq _ _) _ _ = w5
      have hb5 : Below w.heap.size w w5 := by subst hV; exact (hb4.setCell (by dsimp only; omega) _).setCell (by dsimp only; omega) _
      replace k1 : Bk w5 (w.heap.size + 1) 25 (stC A' l.length c' B f.length d) := by subst hV; exact (k1.set_ 0 _).set_ 1 _
      replace r1 : Rd w5 w5.heap.size A' (cls (l.set q ⟨g, true, v⟩)) := by subst hV; exact (r1.set1 (p := ⟨w.heap.size + 1, 0, none⟩) hfr lk1 _).set1 (p := ⟨w.heap.size + 1, 1, none⟩) hfr lk1 _
      clear hV
      have k1_0 := k1.cell 0; have k1_f0 := k1.frozen 0; have k1_1 := k1.cell 1; have k1_f1 := k1.frozen 1; simp only [List.set_cons_zero, List.set_cons_succ, List.getElem?_cons_zero, List.getElem?_cons_succ] at k1_0 k1_1; have lt_k1 := k1.lt
      have hr := HR.out
      exact bodyPost_ret (v := .tuple #[stV A' l.length c' B f.length d, .int .i64 0]) (by simp only [results, Try.results15]; go_simp) rfl ⟨_, by rw [hr], by rw [hr]; exact ⟨A', c', B, d, by rw [List.length_set], hd, r1, (hb.below hb5).more hb5.size⟩, hb5⟩
  · have hr := change_odd (D := setD v) (h := h) he
    have hne : (pCheck l f != 0) = true := by simpa using he
    generalize pCheck l f = ec at *
    clear he
    refine (hP0 _ hb1).mono ?_; rintro e x2 ⟨⟨r, rfl⟩, hx2⟩
    replace k0 := k0.step hx2; (try clear k0_0 k0_f0 k0_1 k0_f1); have k0_0 := k0.cell 0; have k0_f0 := k0.frozen 0; have k0_1 := k0.cell 1; have k0_f1 := k0.frozen 1; simp only [List.set_cons_zero, List.set_cons_succ, List.getElem?_cons_zero, List.getElem?_cons_succ] at k0_0 k0_1; (try clear lt_k0); have lt_k0 := k0.lt; replace k1 := k1.step hx2; (try clear k1_0 k1_f0 k1_1 k1_f1); have k1_0 := k1.cell 0; have k1_f0 := k1.frozen 0; have k1_1 := k1.cell 1; have k1_f1 := k1.frozen 1; simp only [List.set_cons_zero, List.set_cons_succ, List.getElem?_cons_zero, List.getElem?_cons_succ] at k1_0 k1_1; (try clear lt_k1); have lt_k1 := k1.lt
    replace hb1 : Below w.heap.size w x2 := hb1.step hx2
    clear hx2 hP0
    go_wp2_with fail
    (try clear k0_0 k0_f0 k0_1 k0_f1 lt_k0) ; (try clear k1_0 k1_f0 k1_1 k1_f1 lt_k1)
    generalize hV : World.setCell (World.setCell x2 _ _) _ _ = w4
    have hb4 : Below w.heap.size w w4 := by subst hV; exact (hb1.setCell (by dsimp only; omega) _).setCell (by dsimp only; omega) _
    replace k1 : Bk w4 (w.heap.size + 1) 25 (stC A l.length c B f.length d) := by subst hV; exact (k1.set_ 0 _).set_ 1 _
    clear hV
    have k1_0 := k1.cell 0; have k1_f0 := k1.frozen 0; have k1_1 := k1.cell 1; have k1_f1 := k1.frozen 1; simp only [List.set_cons_zero, List.set_cons_succ, List.getElem?_cons_zero, List.getElem?_cons_succ] at k1_0 k1_1; have lt_k1 := k1.lt
    exact bodyPost_ret (v := .tuple #[stV A l.length c B f.length d, .int .i64 ec]) (by simp only [results, Try.results15]; go_simp) rfl ⟨_, by rw [hr], by rw [hr]; exact ⟨A, c, B, d, rfl, hd, (ha.below hb4).more hb4.size, (hb.below hb4).more hb4.size⟩, hb4⟩
end Go.Proofs.Ytnmpighdkdffbaa
