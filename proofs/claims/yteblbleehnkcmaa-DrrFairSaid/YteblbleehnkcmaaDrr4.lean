/- Package drr: Join. -/
import Derived.Test.YteblbleehnkcmaaDrr3
namespace Go.Proofs.Yteblbleehnkcmaa
open Go.RowKit Go.Sort
set_option linter.unusedSimpArgs false
set_option linter.unusedVariables false

/-- a state's value -/
def DAt (w : World) (V : Value) (l : List Fl) (at_ : Int) (mid : Bool) : Prop := ∃ A c, V = dsV A l.length c at_ mid ∧ Rd w w.heap.size A (flR l)
/-- .. whose row came in, or is a new one -/
def DAtF (lo : Nat) (A0 : Option Addr) (w : World) (V : Value) (l : List Fl) (at_ : Int) (mid : Bool) : Prop := ∃ A c, V = dsV A l.length c at_ mid ∧ Rd w w.heap.size A (flR l) ∧ (A = A0 ∨ Fr lo A)
theorem DAtF.at_ {lo : Nat} {A0 : Option Addr} {w : World} {V : Value} {l : List Fl} {at_ : Int} {mid : Bool} (h : DAtF lo A0 w V l at_ mid) : DAt w V l at_ mid := by
  obtain ⟨A, c, e, ha, _⟩ := h
  exact ⟨A, c, e, ha⟩
theorem DAt.step {w w' : World} {V : Value} {l : List Fl} {at_ : Int} {mid : Bool} (h : DAt w V l at_ mid) (k : Below w.heap.size w w') : DAt w' V l at_ mid := by
  obtain ⟨A, c, e, ha⟩ := h
  exact ⟨A, c, e, ha.step k⟩
theorem rd_hnews {w : World} {B : Nat} {ad : Addr} {xs : List Value} (h : Rd w B (some ad) xs) : ∀ j u, xs[j]? = some u → w.cell? (ad.add j) = some u := by
  intro j u hu
  obtain ⟨ad', e, _, hc⟩ := h (by rintro h0; rw [h0] at hu; simp at hu)
  injection e with e; subst e
  exact hc j u hu
theorem _root_.Go.Calls.mownR {P : Program} {f : FuncId} {args : Array Value} {w : World} {base : Nat} {t : TypeId} {size n : Nat} {xs : List Value} (hb : base ≤ w.heap.size) (h : Calls P f args w fun e w' => ∃ B d, e = .returned (.slice B n d) ∧ w'.ownsRow w.heap.size t size (.slice B n d) n xs ∧ Below w.heap.size w w') : Calls P f args w (mPost (OwnAtR base t size n xs) w) :=
  h.mono fun _ _ ⟨B, d, he, hr, hb'⟩ => ⟨_, he, ⟨B, d, rfl⟩, ⟨B, d, rfl, ⟨hr.1, by
    rcases hr.2 with h2 | ⟨g, cap, cur, hv, hg, r⟩
    · exact .inl h2
    · exact .inr ⟨g, cap, cur, hv, Nat.le_trans hb hg, r⟩⟩⟩, hb'⟩
def dJoin (l : List Fl) (at_ : Int) (mid : Bool) (id wt : Int) : List Fl × Int :=
  if dCheck l at_ mid ≠ 0 then (l, dCheck l at_ mid) else if fWrong ⟨id, wt, 0⟩ = true then (l, 8) else if dFind l id ≠ -1 then (l, 13) else if l.length = 16 then (l, 7) else (l ++ [⟨id, wt, 0⟩], 0)
set_option maxRecDepth 100000 in
set_option maxHeartbeats 8000000 in
theorem drr_Join_any (A : Option Addr) (c : Nat) (l : List Fl) (at_ : Int) (mid : Bool) (id wt : Int) (w : World) (hl : l.length ≤ 1000) (ha : Rd w w.heap.size A (flR l)) :
    Calls Try.prog 18 #[dsV A l.length c at_ mid, .int .i64 id, .int .i64 wt] w fun e w' => ∃ V', e = .returned (.tuple #[V', .int .i64 (dJoin l at_ mid id wt).2]) ∧ DAtF w.heap.size A w' V' (dJoin l at_ mid id wt).1 at_ mid ∧ Below w.heap.size w w' := by
  obtain ⟨iT, hi, hz0, hz1, hz2⟩ := info_parts fl_info
  have hC := fun (W : World) (h : Below w.heap.size w W) => drr_Check_any A c l at_ mid W hl ((ha.below h).more h.size)
  have hF := fun (W : World) (h : Below w.heap.size w W) => drr_find_any A c l at_ mid id W hl ((ha.below h).more h.size)
  go_enter Try.func18, Try.ntmps18
  go_wp2_with fail
  generalize hV : World.alloc (World.alloc w _) _ = w1
  have hb1 : Below w.heap.size w w1 := by subst hV; (repeat (first | with_reducible exact Below.refl _ _ | with_reducible assumption | with_reducible refine Below.drew ?_ | with_reducible refine Below.drewN ?_ _ | with_reducible refine Below.alloc1 ?_ _ | with_reducible refine Below.setCell1 ?_ (by first | omega | (simp; done) | (simp; omega)) _ | with_reducible refine Below.step ?_ (by with_reducible assumption)))
  have k0 : Bk w1 w.heap.size 31 (dsC A l.length c at_ mid) := by subst hV; (repeat (first | with_reducible exact Bk.new' _ _ _ _ (by simp; done) | with_reducible assumption | with_reducible refine Bk.alloc ?_ _ | with_reducible refine Bk.drew ?_ | with_reducible refine Bk.drewN ?_ _ | with_reducible refine Bk.step ?_ (by with_reducible assumption) | with_reducible refine Bk.far ?_ (by first | omega | (simp; done) | (simp; omega)) _))
  have k1 : Bk w1 (w.heap.size + 1) 31 (dsC none 0 0 0 false) := by subst hV; (repeat (first | with_reducible exact Bk.new' _ _ _ _ (by simp; done) | with_reducible assumption | with_reducible refine Bk.alloc ?_ _ | with_reducible refine Bk.drew ?_ | with_reducible refine Bk.drewN ?_ _ | with_reducible refine Bk.step ?_ (by with_reducible assumption) | with_reducible refine Bk.far ?_ (by first | omega | (simp; done) | (simp; omega)) _))
  clear hV
  refine (hC _ hb1).mono ?_; rintro e x0 ⟨rfl, hx0⟩
  replace k0 := k0.step hx0
  replace k1 := k1.step hx0
  replace hb1 : Below w.heap.size w x0 := hb1.step hx0
  clear hx0 hC
  have k0_0 := k0.cell 0; have k0_f0 := k0.frozen 0; have k0_1 := k0.cell 1; have k0_f1 := k0.frozen 1; have k0_2 := k0.cell 2; have k0_f2 := k0.frozen 2; simp only [List.set_cons_zero, List.set_cons_succ, List.getElem?_cons_zero, List.getElem?_cons_succ] at k0_0 k0_1 k0_2; have lt_k0 := k0.lt; have k1_0 := k1.cell 0; have k1_f0 := k1.frozen 0; have k1_1 := k1.cell 1; have k1_f1 := k1.frozen 1; have k1_2 := k1.cell 2; have k1_f2 := k1.frozen 2; simp only [List.set_cons_zero, List.set_cons_succ, List.getElem?_cons_zero, List.getElem?_cons_succ] at k1_0 k1_1 k1_2; have lt_k1 := k1.lt
  by_cases he : dCheck l at_ mid = 0
  · have hr1 : dJoin l at_ mid id wt = if fWrong ⟨id, wt, 0⟩ = true then (l, 8) else if dFind l id ≠ -1 then (l, 13) else if l.length = 16 then (l, 7) else (l ++ [⟨id, wt, 0⟩], 0) := by unfold dJoin; rw [if_neg (by simpa using he)]
    have HR := hide hr1
    rw [he]
    clear he hr1
    go_wp2_with fail
    generalize hV : World.alloc x0 _ = w2
    have hy : Below x0.heap.size x0 w2 := by subst hV; (repeat (first | with_reducible exact Below.refl _ _ | with_reducible assumption | with_reducible refine Below.drew ?_ | with_reducible refine Below.drewN ?_ _ | with_reducible refine Below.alloc1 ?_ _ | with_reducible refine Below.setCell1 ?_ (by first | omega | (simp; done) | (simp; omega)) _ | with_reducible refine Below.step ?_ (by with_reducible assumption)))
    have kf : Bk w2 x0.heap.size 70 (flC ⟨id, wt, 0⟩) := by subst hV; (repeat (first | with_reducible exact Bk.new' _ _ _ _ (by simp; done) | with_reducible assumption | with_reducible refine Bk.alloc ?_ _ | with_reducible refine Bk.drew ?_ | with_reducible refine Bk.drewN ?_ _ | with_reducible refine Bk.step ?_ (by with_reducible assumption) | with_reducible refine Bk.far ?_ (by first | omega | (simp; done) | (simp; omega)) _))
    clear hV
    replace k0 := k0.step hy; (try clear k0_0 k0_f0 k0_1 k0_f1 k0_2 k0_f2); have k0_0 := k0.cell 0; have k0_f0 := k0.frozen 0; have k0_1 := k0.cell 1; have k0_f1 := k0.frozen 1; have k0_2 := k0.cell 2; have k0_f2 := k0.frozen 2; simp only [List.set_cons_zero, List.set_cons_succ, List.getElem?_cons_zero, List.getElem?_cons_succ] at k0_0 k0_1 k0_2; (try clear lt_k0); have lt_k0 := k0.lt; replace k1 := k1.step hy; (try clear k1_0 k1_f0 k1_1 k1_f1 k1_2 k1_f2); have k1_0 := k1.cell 0; have k1_f0 := k1.frozen 0; have k1_1 := k1.cell 1; have k1_f1 := k1.frozen 1; have k1_2 := k1.cell 2; have k1_f2 := k1.frozen 2; simp only [List.set_cons_zero, List.set_cons_succ, List.getElem?_cons_zero, List.getElem?_cons_succ] at k1_0 k1_1 k1_2; (try clear lt_k1); have lt_k1 := k1.lt
    replace hb1 : Below w.heap.size w w2 := hb1.step hy
    clear hy
    have kf_0 := kf.cell 0; have kf_f0 := kf.frozen 0; have kf_1 := kf.cell 1; have kf_f1 := kf.frozen 1; have kf_2 := kf.cell 2; have kf_f2 := kf.frozen 2; simp only [List.set_cons_zero, List.set_cons_succ, List.getElem?_cons_zero, List.getElem?_cons_succ] at kf_0 kf_1 kf_2; have lt_kf := kf.lt
    refine (drr_wrong_any ⟨id, wt, 0⟩ _).mono ?_; rintro e x3 ⟨rfl, hx3⟩
    replace k0 := k0.step hx3; (try clear k0_0 k0_f0 k0_1 k0_f1 k0_2 k0_f2); have k0_0 := k0.cell 0; have k0_f0 := k0.frozen 0; have k0_1 := k0.cell 1; have k0_f1 := k0.frozen 1; have k0_2 := k0.cell 2; have k0_f2 := k0.frozen 2; simp only [List.set_cons_zero, List.set_cons_succ, List.getElem?_cons_zero, List.getElem?_cons_succ] at k0_0 k0_1 k0_2; (try clear lt_k0); have lt_k0 := k0.lt; replace k1 := k1.step hx3; (try clear k1_0 k1_f0 k1_1 k1_f1 k1_2 k1_f2); have k1_0 := k1.cell 0; have k1_f0 := k1.frozen 0; have k1_1 := k1.cell 1; have k1_f1 := k1.frozen 1; have k1_2 := k1.cell 2; have k1_f2 := k1.frozen 2; simp only [List.set_cons_zero, List.set_cons_succ, List.getElem?_cons_zero, List.getElem?_cons_succ] at k1_0 k1_1 k1_2; (try clear lt_k1); have lt_k1 := k1.lt; replace kf := kf.step hx3; (try clear kf_0 kf_f0 kf_1 kf_f1 kf_2 kf_f2); have kf_0 := kf.cell 0; have kf_f0 := kf.frozen 0; have kf_1 := kf.cell 1; have kf_f1 := kf.frozen 1; have kf_2 := kf.cell 2; have kf_f2 := kf.frozen 2; simp only [List.set_cons_zero, List.set_cons_succ, List.getElem?_cons_zero, List.getElem?_cons_succ] at kf_0 kf_1 kf_2; (try clear lt_kf); have lt_kf := kf.lt
    replace hb1 : Below w.heap.size w x3 := hb1.step hx3
    clear hx3
    by_cases hw : fWrong ⟨id, wt, 0⟩ = true
    · have hr := HR.out
      rw [if_pos hw] at hr
      rw [hw]
      clear hw HR
      go_wp2_with fail
      (try (try clear k0_0 k0_f0 k0_1 k0_f1 k0_2 k0_f2 lt_k0))
      (try clear k1_0 k1_f0 k1_1 k1_f1 k1_2 k1_f2 lt_k1)
      generalize hV : World.setCell (World.setCell (World.setCell x3 _ _) _ _) _ _ = w4
      have hb4 : Below w.heap.size w w4 := by subst hV; exact ((hb1.setCell (by dsimp only; omega) _).setCell (by dsimp only; omega) _).setCell (by dsimp only; omega) _
      replace k1 : Bk w4 (w.heap.size + 1) 31 (dsC A l.length c at_ mid) := by subst hV; exact ((k1.set_ 0 _).set_ 1 _).set_ 2 _
      clear hV
      have k1_0 := k1.cell 0; have k1_f0 := k1.frozen 0; have k1_1 := k1.cell 1; have k1_f1 := k1.frozen 1; have k1_2 := k1.cell 2; have k1_f2 := k1.frozen 2; simp only [List.set_cons_zero, List.set_cons_succ, List.getElem?_cons_zero, List.getElem?_cons_succ] at k1_0 k1_1 k1_2; have lt_k1 := k1.lt
      exact bodyPost_ret (v := .tuple #[dsV A l.length c at_ mid, .int .i64 8]) (by simp only [results, Try.results18]; go_simp) rfl ⟨_, by rw [hr], by rw [hr]; exact ⟨A, c, rfl, (ha.below hb4).more hb4.size, .inl rfl⟩, hb4⟩
    · have hr := HR.out
      rw [if_neg hw] at hr
      have hw' : fWrong ⟨id, wt, 0⟩ = false := by simpa using hw
      rw [hw']
      replace HR := hide hr
      clear hw hw' hr
      go_wp2_with fail
      refine (hF _ hb1).mono ?_; rintro e x4 ⟨rfl, hx4⟩
      replace k0 := k0.step hx4; (try clear k0_0 k0_f0 k0_1 k0_f1 k0_2 k0_f2); have k0_0 := k0.cell 0; have k0_f0 := k0.frozen 0; have k0_1 := k0.cell 1; have k0_f1 := k0.frozen 1; have k0_2 := k0.cell 2; have k0_f2 := k0.frozen 2; simp only [List.set_cons_zero, List.set_cons_succ, List.getElem?_cons_zero, List.getElem?_cons_succ] at k0_0 k0_1 k0_2; (try clear lt_k0); have lt_k0 := k0.lt; replace k1 := k1.step hx4; (try clear k1_0 k1_f0 k1_1 k1_f1 k1_2 k1_f2); have k1_0 := k1.cell 0; have k1_f0 := k1.frozen 0; have k1_1 := k1.cell 1; have k1_f1 := k1.frozen 1; have k1_2 := k1.cell 2; have k1_f2 := k1.frozen 2; simp only [List.set_cons_zero, List.set_cons_succ, List.getElem?_cons_zero, List.getElem?_cons_succ] at k1_0 k1_1 k1_2; (try clear lt_k1); have lt_k1 := k1.lt; replace kf := kf.step hx4; (try clear kf_0 kf_f0 kf_1 kf_f1 kf_2 kf_f2); have kf_0 := kf.cell 0; have kf_f0 := kf.frozen 0; have kf_1 := kf.cell 1; have kf_f1 := kf.frozen 1; have kf_2 := kf.cell 2; have kf_f2 := kf.frozen 2; simp only [List.set_cons_zero, List.set_cons_succ, List.getElem?_cons_zero, List.getElem?_cons_succ] at kf_0 kf_1 kf_2; (try clear lt_kf); have lt_kf := kf.lt
      replace hb1 : Below w.heap.size w x4 := hb1.step hx4
      clear hx4 hF
      by_cases hf : dFind l id = -1
      · have hr := HR.out
        rw [if_neg (by simpa using hf)] at hr
        rw [hf]
        replace HR := hide hr
        clear hr hf
        by_cases h16 : l.length = 16
        · have hr := HR.out
          rw [if_pos h16] at hr
          have d1 : ((l.length : Int) == 16) = true := by rw [beq_iff_eq]; omega
          clear h16 HR
          go_wp2_with fail
          (try (try clear k0_0 k0_f0 k0_1 k0_f1 k0_2 k0_f2 lt_k0))
          (try clear k1_0 k1_f0 k1_1 k1_f1 k1_2 k1_f2 lt_k1)
          generalize hV : World.setCell (World.setCell (World.setCell x4 _ _) _ _) _ _ = w4
          have hb4 : Below w.heap.size w w4 := by subst hV; exact ((hb1.setCell (by dsimp only; omega) _).setCell (by dsimp only; omega) _).setCell (by dsimp only; omega) _
          replace k1 : Bk w4 (w.heap.size + 1) 31 (dsC A l.length c at_ mid) := by subst hV; exact ((k1.set_ 0 _).set_ 1 _).set_ 2 _
          clear hV
          have k1_0 := k1.cell 0; have k1_f0 := k1.frozen 0; have k1_1 := k1.cell 1; have k1_f1 := k1.frozen 1; have k1_2 := k1.cell 2; have k1_f2 := k1.frozen 2; simp only [List.set_cons_zero, List.set_cons_succ, List.getElem?_cons_zero, List.getElem?_cons_succ] at k1_0 k1_1 k1_2; have lt_k1 := k1.lt
          exact bodyPost_ret (v := .tuple #[dsV A l.length c at_ mid, .int .i64 7]) (by simp only [results, Try.results18]; go_simp) rfl ⟨_, by rw [hr], by rw [hr]; exact ⟨A, c, rfl, (ha.below hb4).more hb4.size, .inl rfl⟩, hb4⟩
        · have hr := HR.out
          rw [if_neg h16] at hr
          have d1 : ((l.length : Int) == 16) = false := by rw [beq_eq_false_iff_ne]; omega
          clear h16 HR
          have rA := (ha.below hb1).more hb1.size
          go_wp2_with fail
          refine wp_region_mt 5 [(2, OwnAtR x4.heap.size 70 3 l.length (flR l)), (4, RowAt 1 (flC ⟨id, wt, 0⟩))] (by kernel_rfl) (by kernel_rfl) (by kernel_rfl) (by kernel_rfl) (sts_cons (sts_ownR _ _ _ _ _) (sts_cons (sts_row _ _) sts_nil)) (fun kq => ?_); (try dsimp only [List.append, List.take])
          (repeat (refine wpM_via (by kernel_rfl) ?_; go_big_quiet_step (fail); refine wpQuiet_nil ?_))
          (refine wpM_spec _ (OwnAtR x4.heap.size 70 3 l.length (flR l)) (by kernel_rfl) (by kernel_rfl) rfl (later_some _) ?_ ?_; (focus (intro x hx hk; obtain ⟨px, rfl⟩ := hx; go_simp; (first | with_reducible refine mUpon_enter ?_ | with_reducible refine mUpon_value ?_); go_at_call 38; exact (fl_Clone A c l _ hl (rA.step (below_regrown x4 _ _))).mownR (below_regrown x4 _ _).size)); intro v hv K hK; obtain ⟨A', c', rfl⟩ := hv; go_big_quiet_op; refine hK _ ?_; clear hK K)
          (repeat (refine wpM_via (by kernel_rfl) ?_; go_big_quiet_step (fail); refine wpQuiet_nil ?_))
          (refine wpM_spec _ (RowAt 1 (flC ⟨id, wt, 0⟩)) (by kernel_rfl) (by kernel_rfl) rfl (later_some _) ?_ ?_; (focus (intro x hx hk; obtain ⟨px, rfl⟩ := hx; go_simp; (first | with_reducible refine mUpon_enter ?_ | with_reducible refine mUpon_value ?_); exact row_new (by simp [Go.Sort.grow]) rfl)); intro v hv K hK; obtain ⟨A2, c2, rfl⟩ := hv; go_big_quiet_op; refine hK _ ?_; clear hK K)
          (repeat (refine wpM_via (by kernel_rfl) ?_; go_big_quiet_step (fail); refine wpQuiet_nil ?_))
          refine wpM_nil ?_; intro wq hwq hfq; have hbq := below_of_class hwq; clear hwq kq; (try dsimp only [List.drop])
          have o8 := own_ofR (base := x4.heap.size) hfq.2.1
          have hrow := row_of hfq.1
          obtain ⟨ad2, rfl, hab, _⟩ := hrow (by simp)
          have hsq := hbq.size
          have lx0 : w.heap.size < x4.heap.size := lt_k0
          have lx1 : w.heap.size + 1 < x4.heap.size := lt_k1
          replace hb1 : Below w.heap.size w wq := hb1.step hbq
          replace k0 := k0.step hbq; (try clear k0_0 k0_f0 k0_1 k0_f1 k0_2 k0_f2); have k0_0 := k0.cell 0; have k0_f0 := k0.frozen 0; have k0_1 := k0.cell 1; have k0_f1 := k0.frozen 1; have k0_2 := k0.cell 2; have k0_f2 := k0.frozen 2; simp only [List.set_cons_zero, List.set_cons_succ, List.getElem?_cons_zero, List.getElem?_cons_succ] at k0_0 k0_1 k0_2; (try clear lt_k0); have lt_k0 := k0.lt; replace k1 := k1.step hbq; (try clear k1_0 k1_f0 k1_1 k1_f1 k1_2 k1_f2); have k1_0 := k1.cell 0; have k1_f0 := k1.frozen 0; have k1_1 := k1.cell 1; have k1_f1 := k1.frozen 1; have k1_2 := k1.cell 2; have k1_f2 := k1.frozen 2; simp only [List.set_cons_zero, List.set_cons_succ, List.getElem?_cons_zero, List.getElem?_cons_succ] at k1_0 k1_1 k1_2; (try clear lt_k1); have lt_k1 := k1.lt
          (try clear k0_0 k0_f0 k0_1 k0_f1 k0_2 k0_f2 lt_k0) ; (try clear k1_0 k1_f0 k1_1 k1_f1 k1_2 k1_f2 lt_k1) ; (try clear kf_0 kf_f0 kf_1 kf_f1 kf_2 kf_f2 lt_kf)
          clear hfq hbq kf rA
          have hl16 : l.length ≤ 1000 := hl
          go_wp2_with (at_builtin; refine wpList_app2 rfl (.tmp 37) (.tmp 39) 29 rfl x4.heap.size 70 iT _ 3 24 Try.underlying29 hi hz0 hz1 hz2 rfl (by omega) A' l.length c' (flR l) rfl o8 ad2 1 c2 (flC ⟨id, wt, 0⟩) rfl rfl (rd_hnews hrow) (by simp [Value.oneCell']) (by unfold maxLen; omega) (by omega) hsq (by omega) ?_; intro g cap w7 own7 hb7 hgr7; (have k7 := k0.below hb7 (by omega)); (have m7 := k1.below hb7 (by omega)); have k7_0 := k7.cell 0; have k7_f0 := k7.frozen 0; have k7_1 := k7.cell 1; have k7_f1 := k7.frozen 1; have k7_2 := k7.cell 2; have k7_f2 := k7.frozen 2; simp only [List.set_cons_zero, List.set_cons_succ, List.getElem?_cons_zero, List.getElem?_cons_succ] at k7_0 k7_1 k7_2; have m7_0 := m7.cell 0; have m7_f0 := m7.frozen 0; have m7_1 := m7.cell 1; have m7_f1 := m7.frozen 1; have m7_2 := m7.cell 2; have m7_f2 := m7.frozen 2; simp only [List.set_cons_zero, List.set_cons_succ, List.getElem?_cons_zero, List.getElem?_cons_succ] at m7_0 m7_1 m7_2; have lt7 := k7.lt; have lm7 := m7.lt)
          (try clear k7_0 k7_f0 k7_1 k7_f1 k7_2 k7_f2 lt_k7) ; (try clear m7_0 m7_f0 m7_1 m7_f1 m7_2 m7_f2 lt_m7)
          generalize hV : World.setCell (World.setCell (World.setCell (World.setCell w7 _ _) _ _) _ _) _ _ = w8
          have hb7' : Below w.heap.size w w7 := hb1.trans (hb7.mono (by omega))
          have hb8 : Below w.heap.size w w8 := by subst hV; exact (((hb7'.setCell (by dsimp only; omega) _).setCell (by dsimp only; omega) _).setCell (by dsimp only; omega) _).setCell (by dsimp only; omega) _
          replace m7 : Bk w8 (w.heap.size + 1) 31 (dsC (some ⟨g, 0, none⟩) (l.length + 1) cap at_ mid) := by subst hV; exact (((m7.far (by dsimp only; omega) _).set_ 0 _).set_ 1 _).set_ 2 _
          replace own7 : w8.ownsRow x4.heap.size 70 3 (.slice (some ⟨g, 0, none⟩) (l.length + 1) cap) (l.length + 1) (flR l ++ flC ⟨id, wt, 0⟩) := by subst hV; refine own_far (own_far (own_far (own_far own7 ?_ _) ?_ _) ?_ _) ?_ _ <;> (dsimp only; omega)
          clear hV hb7 hgr7 k7 o8
          have m7_0 := m7.cell 0; have m7_f0 := m7.frozen 0; have m7_1 := m7.cell 1; have m7_f1 := m7.frozen 1; have m7_2 := m7.cell 2; have m7_f2 := m7.frozen 2; simp only [List.set_cons_zero, List.set_cons_succ, List.getElem?_cons_zero, List.getElem?_cons_succ] at m7_0 m7_1 m7_2; have lt_m7 := m7.lt
          have hrr : Rd w8 w8.heap.size (some ⟨g, 0, none⟩) (flR (l ++ [⟨id, wt, 0⟩])) := by
            have := own_rd own7
            rwa [show flR (l ++ [⟨id, wt, 0⟩]) = flR l ++ flC ⟨id, wt, 0⟩ by simp [flR]]
          exact bodyPost_ret (v := .tuple #[dsV (some ⟨g, 0, none⟩) (l.length + 1) cap at_ mid, .int .i64 0]) (by simp only [results, Try.results18]; go_simp) rfl ⟨_, by rw [hr], by rw [hr]; exact ⟨some ⟨g, 0, none⟩, cap, by rw [List.length_append]; rfl, hrr, .inr (fun ad e => by cases e; have h1 := (own7.lt g rfl).1; have h2 := hb1.size; dsimp only; omega)⟩, hb8⟩
      · have hr := HR.out
        rw [if_pos (by simpa using hf)] at hr
        have d1 : (dFind l id != -1) = true := by rw [bne_iff_ne]; exact hf
        clear hf HR
        go_wp2_with fail
        (try (try clear k0_0 k0_f0 k0_1 k0_f1 k0_2 k0_f2 lt_k0))
        (try clear k1_0 k1_f0 k1_1 k1_f1 k1_2 k1_f2 lt_k1)
        generalize hV : World.setCell (World.setCell (World.setCell x4 _ _) _ _) _ _ = w4
        have hb4 : Below w.heap.size w w4 := by subst hV; exact ((hb1.setCell (by dsimp only; omega) _).setCell (by dsimp only; omega) _).setCell (by dsimp only; omega) _
        replace k1 : Bk w4 (w.heap.size + 1) 31 (dsC A l.length c at_ mid) := by subst hV; exact ((k1.set_ 0 _).set_ 1 _).set_ 2 _
        clear hV
        have k1_0 := k1.cell 0; have k1_f0 := k1.frozen 0; have k1_1 := k1.cell 1; have k1_f1 := k1.frozen 1; have k1_2 := k1.cell 2; have k1_f2 := k1.frozen 2; simp only [List.set_cons_zero, List.set_cons_succ, List.getElem?_cons_zero, List.getElem?_cons_succ] at k1_0 k1_1 k1_2; have lt_k1 := k1.lt
        exact bodyPost_ret (v := .tuple #[dsV A l.length c at_ mid, .int .i64 13]) (by simp only [results, Try.results18]; go_simp) rfl ⟨_, by rw [hr], by rw [hr]; exact ⟨A, c, rfl, (ha.below hb4).more hb4.size, .inl rfl⟩, hb4⟩
  · have hr : dJoin l at_ mid id wt = (l, dCheck l at_ mid) := by unfold dJoin; rw [if_pos he]
    have hne : (dCheck l at_ mid != 0) = true := by simpa using he
    generalize dCheck l at_ mid = ec at *
    clear he
    go_wp2_with fail
    (try (try clear k0_0 k0_f0 k0_1 k0_f1 k0_2 k0_f2 lt_k0))
    (try clear k1_0 k1_f0 k1_1 k1_f1 k1_2 k1_f2 lt_k1)
    generalize hV : World.setCell (World.setCell (World.setCell x0 _ _) _ _) _ _ = w4
    have hb4 : Below w.heap.size w w4 := by subst hV; exact ((hb1.setCell (by dsimp only; omega) _).setCell (by dsimp only; omega) _).setCell (by dsimp only; omega) _
    replace k1 : Bk w4 (w.heap.size + 1) 31 (dsC A l.length c at_ mid) := by subst hV; exact ((k1.set_ 0 _).set_ 1 _).set_ 2 _
    clear hV
    have k1_0 := k1.cell 0; have k1_f0 := k1.frozen 0; have k1_1 := k1.cell 1; have k1_f1 := k1.frozen 1; have k1_2 := k1.cell 2; have k1_f2 := k1.frozen 2; simp only [List.set_cons_zero, List.set_cons_succ, List.getElem?_cons_zero, List.getElem?_cons_succ] at k1_0 k1_1 k1_2; have lt_k1 := k1.lt
    exact bodyPost_ret (v := .tuple #[dsV A l.length c at_ mid, .int .i64 ec]) (by simp only [results, Try.results18]; go_simp) rfl ⟨_, by rw [hr], by rw [hr]; exact ⟨A, c, rfl, (ha.below hb4).more hb4.size, .inl rfl⟩, hb4⟩
end Go.Proofs.Yteblbleehnkcmaa
