/- callboyref28: Leave. -/
import Derived.Test.YteblbleehnkcmaaRef28c
namespace Go.Proofs.Yteblbleehnkcmaa
open Go.RowKit Go.Sort
set_option linter.unusedSimpArgs false
set_option linter.unusedVariables false

theorem from_run {P : Program} {t e : TypeId} {size : Nat} (ht : P.underlying t = some (.slice e)) (he : P.elem t = e) (hs : ∀ W, (sizeOf e).run P W = .ok size W) (ad : Addr) (k n c : Nat) (v : Int) (hv : v = k) (hk : k ≤ n) (hn : n ≤ c) :
    ∃ A2, ((A2 = some ad ∧ c = k) ∨ A2 = some (ad.add (k * size))) ∧ (∀ W, (Instr.slice t (.slice (some ad) n c) (some (.int .i64 v)) none none).run P W = .ok (.slice A2 (n - k) (c - k)) W) ∧ (∀ W, (Instr.sliceAt t (.slice (some ad) n c) (some (.int .i64 v)) none none).run P W = .ok (.slice A2 (n - k) (c - k)) W) := by
  subst hv
  have hu : P.underlying t = some (.slice (P.elem t)) := by rw [he]; exact ht
  have hb : ∃ A2, ((A2 = some ad ∧ c = k) ∨ A2 = some (ad.add (k * size))) ∧ (∀ W, (Instr.slice t (.slice (some ad) n c) (some (.int .i64 (k : Int))) none none).run P W = .ok (.slice A2 (n - k) (c - k)) W) := by
    by_cases h1 : c = k
    · refine ⟨_, .inl ⟨rfl, h1⟩, fun W => ?_⟩
      rw [run_slice_l (ht := hu) (h0 := by omega) (h1 := by omega), he, hs]
      simp [sliced, h1]
    · refine ⟨_, .inr rfl, fun W => ?_⟩
      rw [run_slice_l (ht := hu) (h0 := by omega) (h1 := by omega), he, hs]
      simp [sliced, h1]
  obtain ⟨A2, h1, h2⟩ := hb
  exact ⟨A2, h1, h2, fun W => (run_sliceAt_slice W _ _ _ _ _ hu).trans (h2 W)⟩
theorem to_run {P : Program} {t e : TypeId} {size : Nat} (ht : P.underlying t = some (.slice e)) (he : P.elem t = e) (hs : ∀ W, (sizeOf e).run P W = .ok size W) (ad : Addr) (k n c : Nat) (hk : k ≤ c) :
    (∀ W, (Instr.slice t (.slice (some ad) n c) none (some (.int .i64 (k : Int))) none).run P W = .ok (.slice (some ad) k c) W) ∧ (∀ W, (Instr.sliceAt t (.slice (some ad) n c) none (some (.int .i64 (k : Int))) none).run P W = .ok (.slice (some ad) k c) W) := by
  have hu : P.underlying t = some (.slice (P.elem t)) := by rw [he]; exact ht
  have hb : (∀ W, (Instr.slice t (.slice (some ad) n c) none (some (.int .i64 (k : Int))) none).run P W = .ok (.slice (some ad) k c) W) := fun W => by
    rw [run_slice_h (ht := hu) (h0 := by omega) (h2 := by omega), he, hs]
    by_cases h1 : c = 0 <;> simp [sliced, h1, Addr.add]
  exact ⟨hb, fun W => (run_sliceAt_slice W _ _ _ _ _ hu).trans (hb W)⟩
theorem mUpon_appnil {P : Program} {o : Oper} {a : Act} {w : World} (s x : Operand) (t : TypeId) (hop : o.op = Op.call { callee := Callee.builtin Builtin.append, args := #[s, x], argTypes := #[t, t] })
    (e : TypeId) (i : TypeInfo) (z : Value) (size bytes : Nat) (h1 : P.underlying t = some (.slice e)) (h2 : P.info? e = some i) (h3 : i.zero = some z) (h4 : i.size = size) (h5 : i.bytes = bytes) (h6 : z.cells.size = size) (h7 : 0 < size)
    (base : Nat) (hbase : base ≤ w.heap.size) (hs : a.eval s = .slice none 0 0)
    (X : Option Addr) (m c : Nat) (news : List Value) (B : Nat) (hx : a.eval x = .slice X m c) (hn : news.length = m * size) (hc : Rd w B X news) (h1c : ∀ u ∈ news, u.oneCell' = true)
    (b1 : m ≤ maxLen) (b2 : m * bytes ≤ 140737488355328) : mUpon P (OwnAtR base e size m news) w ((execOp a.eval o).run P w) := by
  have hown : w.ownsRow base e size (.slice none 0 0) 0 [] := ⟨by simp, .inl ⟨rfl, rfl⟩⟩
  rcases X with _ | ad
  · have hn0 : news = [] := Classical.byContradiction fun hne => by
      obtain ⟨ad, e, _⟩ := hc hne
      cases e
    subst hn0
    have hm : m = 0 := by
      rcases Nat.eq_zero_or_pos m with h | h
      · exact h
      · have := Nat.mul_pos h h7; simp at hn; omega
    subst hm
    have hrun := fun ty => run_append_nothing (P := P) w t t ty e i h1 h2 none 0 0 (Nat.le_refl _) (.slice none 0 c) (Src.ofNil w h1 c)
    simp only [execOp, hop, resolve, invoke, builtin, Sem.run_bind, Sem.run_pure, Result.andThen_ok, List.map_toArray, List.map_cons, List.map_nil, hs, hx, hrun]
    exact ⟨⟨_, _, rfl⟩, ⟨_, _, rfl, hown⟩, Below.refl _ _⟩
  · have hnews : ∀ j u, news[j]? = some u → w.cell? (ad.add j) = some u := by
      intro j u hu
      obtain ⟨ad', e, _, hc⟩ := hc (by rintro h0; rw [h0] at hu; simp at hu)
      injection e with e; subst e
      exact hc j u hu
    obtain ⟨v', w', hr, r1, r2, _⟩ := run_append_own (P := P) w base t o.type e i z size bytes h1 h2 h3 h4 h5 h6 h7 (.slice none 0 0) 0 [] hown ad m c news hn hnews h1c (by simpa using b1) (by simpa using b2) hbase
    rw [Nat.zero_add, List.nil_append] at r1
    obtain ⟨B', d, rfl⟩ := own_form r1
    simp only [execOp, hop, resolve, invoke, builtin, Sem.run_bind, Sem.run_pure, Result.andThen_ok, List.map_toArray, List.map_cons, List.map_nil, hs, hx, hr]
    exact ⟨⟨_, _, rfl⟩, ⟨_, _, rfl, r1⟩, (Below.refl w.heap.size w).grown r2 (Nat.le_refl _) (fun k hk => by simp [Value.ownBlock] at hk)⟩
set_option maxRecDepth 100000 in
set_option maxHeartbeats 8000000 in
theorem ref_Leave_any (A : Option Addr) (c : Nat) (l : List Fl) (at_ : Int) (mid : Bool) (id : Int) (w : World) (hl : l.length ≤ 1000) (hlc : l.length ≤ c) (ha : Rd w w.heap.size A (flR l)) :
    Calls Try.prog 21 #[rsV A l.length c at_ mid, .int .i64 id] w fun e w' => ∃ V', e = .returned (.tuple #[V', .int .i64 (dLeave l at_ mid id).2]) ∧ DAt w' V' (dLeave l at_ mid id).1.l (dLeave l at_ mid id).1.at_ (dLeave l at_ mid id).1.mid ∧ Below w.heap.size w w' := by
  obtain ⟨iT, hi, hz0, hz1, hz2⟩ := info_parts rfl_info
  have hC := fun (W : World) (h : Below w.heap.size w W) => ref_Check_any A c l at_ mid W hl ((ha.below h).more h.size)
  have hF := fun (W : World) (h : Below w.heap.size w W) => ref_place_any A c l at_ mid id W hl ((ha.below h).more h.size)
  go_enter Try.func21, Try.ntmps21
  go_wp2_with fail
  generalize hV : World.alloc (World.alloc w _) _ = w1
  have hb1 : Below w.heap.size w w1 := by subst hV; (repeat (first | with_reducible exact Below.refl _ _ | with_reducible assumption | with_reducible refine Below.drew ?_ | with_reducible refine Below.drewN ?_ _ | with_reducible refine Below.alloc1 ?_ _ | with_reducible refine Below.setCell1 ?_ (by first | omega | (simp; done) | (simp; omega)) _ | with_reducible refine Below.step ?_ (by with_reducible assumption)))
  have k0 : Bk w1 w.heap.size 24 (dsC A l.length c at_ mid) := by subst hV; (repeat (first | with_reducible exact Bk.new' _ _ _ _ (by simp; done) | with_reducible assumption | with_reducible refine Bk.alloc ?_ _ | with_reducible refine Bk.drew ?_ | with_reducible refine Bk.drewN ?_ _ | with_reducible refine Bk.step ?_ (by with_reducible assumption) | with_reducible refine Bk.far ?_ (by first | omega | (simp; done) | (simp; omega)) _))
  have k1 : Bk w1 (w.heap.size + 1) 24 (dsC none 0 0 0 false) := by subst hV; (repeat (first | with_reducible exact Bk.new' _ _ _ _ (by simp; done) | with_reducible assumption | with_reducible refine Bk.alloc ?_ _ | with_reducible refine Bk.drew ?_ | with_reducible refine Bk.drewN ?_ _ | with_reducible refine Bk.step ?_ (by with_reducible assumption) | with_reducible refine Bk.far ?_ (by first | omega | (simp; done) | (simp; omega)) _))
  clear hV
  refine (hF _ hb1).mono ?_; rintro e xF ⟨rfl, hxF⟩
  replace k0 := k0.step hxF
  replace k1 := k1.step hxF
  replace hb1 : Below w.heap.size w xF := hb1.step hxF
  clear hxF hF
  have k0_0 := k0.cell 0; have k0_f0 := k0.frozen 0; have k0_1 := k0.cell 1; have k0_f1 := k0.frozen 1; have k0_2 := k0.cell 2; have k0_f2 := k0.frozen 2; simp only [List.set_cons_zero, List.set_cons_succ, List.getElem?_cons_zero, List.getElem?_cons_succ] at k0_0 k0_1 k0_2; have lt_k0 := k0.lt; have k1_0 := k1.cell 0; have k1_f0 := k1.frozen 0; have k1_1 := k1.cell 1; have k1_f1 := k1.frozen 1; have k1_2 := k1.cell 2; have k1_f2 := k1.frozen 2; simp only [List.set_cons_zero, List.set_cons_succ, List.getElem?_cons_zero, List.getElem?_cons_succ] at k1_0 k1_1 k1_2; have lt_k1 := k1.lt
  go_wp2_with fail
  refine (hC _ hb1).mono ?_; rintro e x0 ⟨rfl, hx0⟩
  replace k0 := k0.step hx0; (try clear k0_0 k0_f0 k0_1 k0_f1 k0_2 k0_f2); have k0_0 := k0.cell 0; have k0_f0 := k0.frozen 0; have k0_1 := k0.cell 1; have k0_f1 := k0.frozen 1; have k0_2 := k0.cell 2; have k0_f2 := k0.frozen 2; simp only [List.set_cons_zero, List.set_cons_succ, List.getElem?_cons_zero, List.getElem?_cons_succ] at k0_0 k0_1 k0_2; (try clear lt_k0); have lt_k0 := k0.lt; replace k1 := k1.step hx0; (try clear k1_0 k1_f0 k1_1 k1_f1 k1_2 k1_f2); have k1_0 := k1.cell 0; have k1_f0 := k1.frozen 0; have k1_1 := k1.cell 1; have k1_f1 := k1.frozen 1; have k1_2 := k1.cell 2; have k1_f2 := k1.frozen 2; simp only [List.set_cons_zero, List.set_cons_succ, List.getElem?_cons_zero, List.getElem?_cons_succ] at k1_0 k1_1 k1_2; (try clear lt_k1); have lt_k1 := k1.lt
  replace hb1 : Below w.heap.size w x0 := hb1.step hx0
  clear hx0
  by_cases he : dCheck l at_ mid = 0
  · have hok := dCheck_ok he
    have hr1 : dLeave l at_ mid id = if dFind l id = -1 then (⟨l, at_, mid⟩, 6) else (⟨l.eraseIdx (dFind l id).toNat, if (if dFind l id < at_ then at_ - 1 else at_) = (l.length : Int) - 1 then 0 else (if dFind l id < at_ then at_ - 1 else at_), if dFind l id = at_ then false else mid⟩, 0) := by unfold dLeave; rw [if_neg (by simpa using he)]
    have HR := hide hr1
    rw [he]
    clear he hr1 hC
    by_cases hf : dFind l id = -1
    · have hr := HR.out
      rw [if_pos hf] at hr
      rw [hf]
      replace HR := hide hr
      clear hr hf
      go_wp2_with fail
      (try clear k0_0 k0_f0 k0_1 k0_f1 k0_2 k0_f2 lt_k0) ; (try clear k1_0 k1_f0 k1_1 k1_f1 k1_2 k1_f2 lt_k1)
      generalize hV : World.setCell (World.setCell (World.setCell x0 _ _) _ _) _ _ = w4
      have hb4 : Below w.heap.size w w4 := by subst hV; exact ((hb1.setCell (by dsimp only; omega) _).setCell (by dsimp only; omega) _).setCell (by dsimp only; omega) _
      replace k1 : Bk w4 (w.heap.size + 1) 24 (dsC A l.length c at_ mid) := by subst hV; exact ((k1.set_ 0 _).set_ 1 _).set_ 2 _
      clear hV
      have k1_0 := k1.cell 0; have k1_f0 := k1.frozen 0; have k1_1 := k1.cell 1; have k1_f1 := k1.frozen 1; have k1_2 := k1.cell 2; have k1_f2 := k1.frozen 2; simp only [List.set_cons_zero, List.set_cons_succ, List.getElem?_cons_zero, List.getElem?_cons_succ] at k1_0 k1_1 k1_2; have lt_k1 := k1.lt
      exact bodyPost_ret (v := .tuple #[dsV A l.length c at_ mid, .int .i64 6]) (by simp only [results, Try.results21]; go_simp) rfl ⟨_, by rw [HR.out], by rw [HR.out]; exact ⟨A, c, rfl, (ha.below hb4).more hb4.size⟩, hb4⟩
    · obtain ⟨k, hk, hkl⟩ := idxI_in _ _ hf
      change dFind l id = _ at hk
      obtain ⟨m, hm⟩ : ∃ m, l.length = m + 1 := ⟨l.length - 1, by omega⟩
      have hr := HR.out
      rw [if_neg hf, hk, hm] at hr
      rw [hk]
      have d0 : (0 : Int) ≤ (k : Int) := by omega
      replace HR := hide hr
      clear hf hr hk
      have hat : 0 ≤ at_ ∧ at_ ≤ (m : Int) := by have := hok.2.2.2; omega
      have hkm : k ≤ m := by omega
      have hm2 : l.length - 1 = m := by omega
      have h16 := hok.1
      clear hok
      obtain ⟨ad, rfl, hadb, _⟩ := ha.fl hkl
      have hsz : ∀ W, (sizeOf 73).run Try.prog W = .ok 3 W := fun W => by kernel_rfl
      have hel : Try.prog.elem 22 = 73 := by kernel_rfl
      obtain ⟨st1, st2⟩ := to_run Try.underlying22 hel hsz ad k (m + 1) c (by omega)
      obtain ⟨A2, hA2, sf1, sf2⟩ := from_run Try.underlying22 hel hsz ad (k + 1) (m + 1) c ((k : Int) + 1) (by omega) (by omega) (by omega)
      rw [show m + 1 - (k + 1) = m - k by omega] at sf1 sf2
      clear hsz hel
      go_wp2_with fail
      refine wp_region_mt 11 [(5, OwnAtR x0.heap.size 73 3 k (flR (l.take k)))] (by kernel_rfl) (by kernel_rfl) (by kernel_rfl) (by kernel_rfl) (sts_cons (sts_ownR _ _ _ _ _) sts_nil) (fun kq => ?_); (try dsimp only [List.append, List.take])
      (repeat (refine wpM_via (by kernel_rfl) ?_; go_big_quiet_step (fail); refine wpQuiet_nil ?_))
      (refine wpM_spec _ (OwnAtR x0.heap.size 73 3 k (flR (l.take k))) (by kernel_rfl) (by kernel_rfl) rfl (later_some _) ?_ ?_; (focus (intro x hx hk; obtain ⟨px, rfl⟩ := hx; exact mUpon_appnil (.tmp 22) (.tmp 26) 22 rfl 73 iT _ 3 24 Try.underlying22 hi hz0 hz1 hz2 rfl (by omega) x0.heap.size (below_regrown x0 _ _).size rfl (some ad) k c (flR (l.take k)) w.heap.size rfl (by rw [flR_length, List.length_take]; omega) (by rw [← flR_take]; exact ((ha.below hb1).below' (below_regrown x0 _ _) (by omega)).take _) (flR_one _) (by unfold maxLen; omega) (by omega))); intro v hv K hK; obtain ⟨A7, cap7, rfl⟩ := hv; go_big_quiet_op; refine hK _ ?_; clear hK K)
      (repeat (refine wpM_via (by kernel_rfl) ?_; go_big_quiet_step (fail); refine wpQuiet_nil ?_))
      refine wpM_nil ?_; intro wq hwq hfq; have hbq := below_of_class hwq; clear hwq kq; (try dsimp only [List.drop])
      have own7 := own_ofR (base := x0.heap.size) hfq.1
      clear hfq st1 st2 sf1 sf2
      have lx0 := k0.lt
      have lx1 := k1.lt
      have hqs := hbq.size
      replace k0 := k0.step hbq; (try clear k0_0 k0_f0 k0_1 k0_f1 k0_2 k0_f2); have k0_0 := k0.cell 0; have k0_f0 := k0.frozen 0; have k0_1 := k0.cell 1; have k0_f1 := k0.frozen 1; have k0_2 := k0.cell 2; have k0_f2 := k0.frozen 2; simp only [List.set_cons_zero, List.set_cons_succ, List.getElem?_cons_zero, List.getElem?_cons_succ] at k0_0 k0_1 k0_2; (try clear lt_k0); have lt_k0 := k0.lt; replace k1 := k1.step hbq; (try clear k1_0 k1_f0 k1_1 k1_f1 k1_2 k1_f2); have k1_0 := k1.cell 0; have k1_f0 := k1.frozen 0; have k1_1 := k1.cell 1; have k1_f1 := k1.frozen 1; have k1_2 := k1.cell 2; have k1_f2 := k1.frozen 2; simp only [List.set_cons_zero, List.set_cons_succ, List.getElem?_cons_zero, List.getElem?_cons_succ] at k1_0 k1_1 k1_2; (try clear lt_k1); have lt_k1 := k1.lt
      replace hb1 : Below w.heap.size w wq := hb1.step hbq
      have rB : Rd wq w.heap.size A2 (flR (l.drop (k + 1))) := by
        rcases hA2 with ⟨_, e⟩ | e
        · have : l.drop (k + 1) = [] := List.drop_eq_nil_of_le (by omega)
          rw [this]; exact Rd.nil
        · rw [e, ← flR_drop]; exact (ha.drop ((k + 1) * 3)).below hb1
      clear hbq hA2
      refine wpList_app3 rfl (.tmp 27) (.tmp 32) 22 rfl x0.heap.size 73 iT _ 3 24 Try.underlying22 hi hz0 hz1 hz2 rfl (by omega) A7 k cap7 (flR (l.take k)) rfl own7 A2 (m - k) (c - (k + 1)) (flR (l.drop (k + 1))) w.heap.size rfl (by rw [flR_length, List.length_drop]; omega) rB (flR_one _) (by unfold maxLen; omega) (by omega) hqs ?_
      intro B8 cap8 w8 own8 hb8q hgr8
      rw [Nat.add_sub_cancel' hkm, ← flR_append, ← List.eraseIdx_eq_take_drop_succ] at own8
      rw [Nat.add_sub_cancel' hkm]
      have k8 := k0.below hb8q (by omega)
      have m8 := k1.below hb8q (by omega)
      have hb8 : Below w.heap.size w w8 := hb1.trans (hb8q.mono (by omega))
      (try clear k0_0 k0_f0 k0_1 k0_f1 k0_2 k0_f2 lt_k0) ; (try clear k1_0 k1_f0 k1_1 k1_f1 k1_2 k1_f2 lt_k1)
      clear hi hz0 hz1 hz2 own7 hb8q hgr8 k0 k1 rB hb1
      have k8_0 := k8.cell 0; have k8_f0 := k8.frozen 0; have k8_1 := k8.cell 1; have k8_f1 := k8.frozen 1; have k8_2 := k8.cell 2; have k8_f2 := k8.frozen 2; simp only [List.set_cons_zero, List.set_cons_succ, List.getElem?_cons_zero, List.getElem?_cons_succ] at k8_0 k8_1 k8_2; have lt_k8 := k8.lt; have m8_0 := m8.cell 0; have m8_f0 := m8.frozen 0; have m8_1 := m8.cell 1; have m8_f1 := m8.frozen 1; have m8_2 := m8.cell 2; have m8_f2 := m8.frozen 2; simp only [List.set_cons_zero, List.set_cons_succ, List.getElem?_cons_zero, List.getElem?_cons_succ] at m8_0 m8_1 m8_2; have lt_m8 := m8.lt
      by_cases c1 : (k : Int) < at_
      · have d0 : ((k : Int) == at_) = false := by rw [beq_eq_false_iff_ne]; omega
        have d1 : at_ - 1 < (m : Int) := by omega
        have hr := HR.out
        rw [if_pos c1, if_neg (by omega), if_neg (by omega)] at hr
        replace HR := hide hr
        clear hr
        go_wp2
        (try clear k8_0 k8_f0 k8_1 k8_f1 k8_2 k8_f2 lt_k8) ; (try clear m8_0 m8_f0 m8_1 m8_f1 m8_2 m8_f2 lt_m8)
        generalize hV : World.setCell (World.setCell (World.setCell _ _ _) _ _) _ _ = w9
        have hb9 : Below w.heap.size w w9 := by subst hV; (repeat first | with_reducible exact hb8 | refine Below.setCell ?_ (by dsimp only; omega) _)
        have m9 : Bk w9 (w.heap.size + 1) 24 (dsC B8 m cap8 (at_ - 1) (mid)) := by subst hV; refine Bk.set_ (Bk.set_ (Bk.set_ (cs := dsC none 0 0 0 false) ?_ 0 _) 1 _) 2 _; (repeat first | with_reducible exact m8 | refine Bk.far ?_ (by dsimp only; omega) _)
        have own9 : w9.ownsRow x0.heap.size 73 3 (.slice B8 m cap8) m (flR (l.eraseIdx k)) := by subst hV; (repeat first | with_reducible exact own8 | refine own_far ?_ (by dsimp only; omega) _)
        clear hV own8 k8 m8
        have m9_0 := m9.cell 0; have m9_f0 := m9.frozen 0; have m9_1 := m9.cell 1; have m9_f1 := m9.frozen 1; have m9_2 := m9.cell 2; have m9_f2 := m9.frozen 2; simp only [List.set_cons_zero, List.set_cons_succ, List.getElem?_cons_zero, List.getElem?_cons_succ] at m9_0 m9_1 m9_2; have lt_m9 := m9.lt
        exact bodyPost_ret (v := .tuple #[dsV B8 m cap8 (at_ - 1) (mid), .int .i64 0]) (by simp only [results, Try.results21]; go_simp) rfl ⟨_, by rw [HR.out], by rw [HR.out]; exact ⟨B8, cap8, by dsimp only; rw [Int.toNat_natCast, List.length_eraseIdx_of_lt hkl, hm2], own_rd own9⟩, hb9⟩
      · have c2 : at_ ≤ (k : Int) := by omega
        by_cases c3 : (k : Int) = at_
        · subst c3
          have hr := HR.out
          clear c1 c2
          by_cases c4 : k = m
          · subst c4
            rw [if_neg (Int.lt_irrefl _), if_pos (by omega), if_pos rfl] at hr
            replace HR := hide hr
            clear hr
            go_wp2
            (try clear k8_0 k8_f0 k8_1 k8_f1 k8_2 k8_f2 lt_k8) ; (try clear m8_0 m8_f0 m8_1 m8_f1 m8_2 m8_f2 lt_m8)
            generalize hV : World.setCell (World.setCell (World.setCell _ _ _) _ _) _ _ = w9
            have hb9 : Below w.heap.size w w9 := by subst hV; (repeat first | with_reducible exact hb8 | refine Below.setCell ?_ (by dsimp only; omega) _)
            have m9 : Bk w9 (w.heap.size + 1) 24 (dsC B8 k cap8 (0) (false)) := by subst hV; refine Bk.set_ (Bk.set_ (Bk.set_ (cs := dsC none 0 0 0 false) ?_ 0 _) 1 _) 2 _; (repeat first | with_reducible exact m8 | refine Bk.far ?_ (by dsimp only; omega) _)
            have own9 : w9.ownsRow x0.heap.size 73 3 (.slice B8 k cap8) k (flR (l.eraseIdx k)) := by subst hV; (repeat first | with_reducible exact own8 | refine own_far ?_ (by dsimp only; omega) _)
            clear hV own8 k8 m8
            have m9_0 := m9.cell 0; have m9_f0 := m9.frozen 0; have m9_1 := m9.cell 1; have m9_f1 := m9.frozen 1; have m9_2 := m9.cell 2; have m9_f2 := m9.frozen 2; simp only [List.set_cons_zero, List.set_cons_succ, List.getElem?_cons_zero, List.getElem?_cons_succ] at m9_0 m9_1 m9_2; have lt_m9 := m9.lt
            exact bodyPost_ret (v := .tuple #[dsV B8 k cap8 (0) (false), .int .i64 0]) (by simp only [results, Try.results21]; go_simp) rfl ⟨_, by rw [HR.out], by rw [HR.out]; exact ⟨B8, cap8, by dsimp only; rw [Int.toNat_natCast, List.length_eraseIdx_of_lt hkl, hm2], own_rd own9⟩, hb9⟩
          · have d1 : (k : Int) < (m : Int) := by omega
            rw [if_neg (Int.lt_irrefl _), if_neg (by omega), if_pos rfl] at hr
            replace HR := hide hr
            clear hr c4
            go_wp2
            (try clear k8_0 k8_f0 k8_1 k8_f1 k8_2 k8_f2 lt_k8) ; (try clear m8_0 m8_f0 m8_1 m8_f1 m8_2 m8_f2 lt_m8)
            generalize hV : World.setCell (World.setCell (World.setCell _ _ _) _ _) _ _ = w9
            have hb9 : Below w.heap.size w w9 := by subst hV; (repeat first | with_reducible exact hb8 | refine Below.setCell ?_ (by dsimp only; omega) _)
            have m9 : Bk w9 (w.heap.size + 1) 24 (dsC B8 m cap8 ((k : Int)) (false)) := by subst hV; refine Bk.set_ (Bk.set_ (Bk.set_ (cs := dsC none 0 0 0 false) ?_ 0 _) 1 _) 2 _; (repeat first | with_reducible exact m8 | refine Bk.far ?_ (by dsimp only; omega) _)
            have own9 : w9.ownsRow x0.heap.size 73 3 (.slice B8 m cap8) m (flR (l.eraseIdx k)) := by subst hV; (repeat first | with_reducible exact own8 | refine own_far ?_ (by dsimp only; omega) _)
            clear hV own8 k8 m8
            have m9_0 := m9.cell 0; have m9_f0 := m9.frozen 0; have m9_1 := m9.cell 1; have m9_f1 := m9.frozen 1; have m9_2 := m9.cell 2; have m9_f2 := m9.frozen 2; simp only [List.set_cons_zero, List.set_cons_succ, List.getElem?_cons_zero, List.getElem?_cons_succ] at m9_0 m9_1 m9_2; have lt_m9 := m9.lt
            exact bodyPost_ret (v := .tuple #[dsV B8 m cap8 ((k : Int)) (false), .int .i64 0]) (by simp only [results, Try.results21]; go_simp) rfl ⟨_, by rw [HR.out], by rw [HR.out]; exact ⟨B8, cap8, by dsimp only; rw [Int.toNat_natCast, List.length_eraseIdx_of_lt hkl, hm2], own_rd own9⟩, hb9⟩
        · have hr := HR.out
          have d0 : ((k : Int) == at_) = false := by rw [beq_eq_false_iff_ne]; omega
          have d1 : at_ < (m : Int) := by omega
          rw [if_neg c1, if_neg (by omega), if_neg c3] at hr
          replace HR := hide hr
          clear hr c1 c3
          go_wp2
          (try clear k8_0 k8_f0 k8_1 k8_f1 k8_2 k8_f2 lt_k8) ; (try clear m8_0 m8_f0 m8_1 m8_f1 m8_2 m8_f2 lt_m8)
          generalize hV : World.setCell (World.setCell (World.setCell _ _ _) _ _) _ _ = w9
          have hb9 : Below w.heap.size w w9 := by subst hV; (repeat first | with_reducible exact hb8 | refine Below.setCell ?_ (by dsimp only; omega) _)
          have m9 : Bk w9 (w.heap.size + 1) 24 (dsC B8 m cap8 (at_) (mid)) := by subst hV; refine Bk.set_ (Bk.set_ (Bk.set_ (cs := dsC none 0 0 0 false) ?_ 0 _) 1 _) 2 _; (repeat first | with_reducible exact m8 | refine Bk.far ?_ (by dsimp only; omega) _)
          have own9 : w9.ownsRow x0.heap.size 73 3 (.slice B8 m cap8) m (flR (l.eraseIdx k)) := by subst hV; (repeat first | with_reducible exact own8 | refine own_far ?_ (by dsimp only; omega) _)
          clear hV own8 k8 m8
          have m9_0 := m9.cell 0; have m9_f0 := m9.frozen 0; have m9_1 := m9.cell 1; have m9_f1 := m9.frozen 1; have m9_2 := m9.cell 2; have m9_f2 := m9.frozen 2; simp only [List.set_cons_zero, List.set_cons_succ, List.getElem?_cons_zero, List.getElem?_cons_succ] at m9_0 m9_1 m9_2; have lt_m9 := m9.lt
          exact bodyPost_ret (v := .tuple #[dsV B8 m cap8 (at_) (mid), .int .i64 0]) (by simp only [results, Try.results21]; go_simp) rfl ⟨_, by rw [HR.out], by rw [HR.out]; exact ⟨B8, cap8, by dsimp only; rw [Int.toNat_natCast, List.length_eraseIdx_of_lt hkl, hm2], own_rd own9⟩, hb9⟩
  · have hr : dLeave l at_ mid id = (⟨l, at_, mid⟩, dCheck l at_ mid) := by unfold dLeave; rw [if_pos he]
    have HR := hide hr
    have hne : (dCheck l at_ mid != 0) = true := by simpa using he
    generalize dCheck l at_ mid = ec at *
    clear he hr
    go_wp2_with fail
    refine wp_region_mt 3 [(2, only (.int .i64 ec))] (by kernel_rfl) (by kernel_rfl) (by kernel_rfl) (by kernel_rfl) (sts_cons (sts_only _) sts_nil) (fun kq => ?_); (try dsimp only [List.append, List.take])
    (repeat (refine wpM_via (by kernel_rfl) ?_; go_big_quiet_step (fail); refine wpQuiet_nil ?_))
    (refine wpM_only _ (.int .i64 ec) (by kernel_rfl) (by kernel_rfl) rfl (later_some _) ?_ ?_; (focus (intro x hx hk; obtain ⟨px, rfl⟩ := hx; go_simp; (first | with_reducible refine mUpon_enter ?_ | with_reducible refine mUpon_value ?_); go_at_call 23; exact (hC _ (hb1.step (below_regrown x0 _ _))).mo)); intro K hK; go_big_quiet_op; refine hK _ ?_; clear hK K)
    refine wpM_nil ?_; intro wq hwq hfq; have hbq := below_of_class hwq; clear hwq kq; (try dsimp only [List.drop])
    replace k0 := k0.step hbq; (try clear k0_0 k0_f0 k0_1 k0_f1 k0_2 k0_f2); have k0_0 := k0.cell 0; have k0_f0 := k0.frozen 0; have k0_1 := k0.cell 1; have k0_f1 := k0.frozen 1; have k0_2 := k0.cell 2; have k0_f2 := k0.frozen 2; simp only [List.set_cons_zero, List.set_cons_succ, List.getElem?_cons_zero, List.getElem?_cons_succ] at k0_0 k0_1 k0_2; (try clear lt_k0); have lt_k0 := k0.lt; replace k1 := k1.step hbq; (try clear k1_0 k1_f0 k1_1 k1_f1 k1_2 k1_f2); have k1_0 := k1.cell 0; have k1_f0 := k1.frozen 0; have k1_1 := k1.cell 1; have k1_f1 := k1.frozen 1; have k1_2 := k1.cell 2; have k1_f2 := k1.frozen 2; simp only [List.set_cons_zero, List.set_cons_succ, List.getElem?_cons_zero, List.getElem?_cons_succ] at k1_0 k1_1 k1_2; (try clear lt_k1); have lt_k1 := k1.lt
    replace hb1 : Below w.heap.size w wq := hb1.step hbq
    clear hfq hbq
    go_wp2
    (try clear k0_0 k0_f0 k0_1 k0_f1 k0_2 k0_f2 lt_k0) ; (try clear k1_0 k1_f0 k1_1 k1_f1 k1_2 k1_f2 lt_k1)
    generalize hV : World.setCell (World.setCell (World.setCell wq _ _) _ _) _ _ = w4
    have hb4 : Below w.heap.size w w4 := by subst hV; exact ((hb1.setCell (by dsimp only; omega) _).setCell (by dsimp only; omega) _).setCell (by dsimp only; omega) _
    replace k1 : Bk w4 (w.heap.size + 1) 24 (dsC A l.length c at_ mid) := by subst hV; exact ((k1.set_ 0 _).set_ 1 _).set_ 2 _
    clear hV
    have k1_0 := k1.cell 0; have k1_f0 := k1.frozen 0; have k1_1 := k1.cell 1; have k1_f1 := k1.frozen 1; have k1_2 := k1.cell 2; have k1_f2 := k1.frozen 2; simp only [List.set_cons_zero, List.set_cons_succ, List.getElem?_cons_zero, List.getElem?_cons_succ] at k1_0 k1_1 k1_2; have lt_k1 := k1.lt
    exact bodyPost_ret (v := .tuple #[dsV A l.length c at_ mid, .int .i64 ec]) (by simp only [results, Try.results21]; go_simp) rfl ⟨_, by rw [HR.out], by rw [HR.out]; exact ⟨A, c, rfl, (ha.below hb4).more hb4.size⟩, hb4⟩
end Go.Proofs.Yteblbleehnkcmaa
