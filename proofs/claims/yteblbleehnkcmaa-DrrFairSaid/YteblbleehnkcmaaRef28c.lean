/- callboyref28: Join. -/
import Derived.Test.YteblbleehnkcmaaRef28b
import Derived.Deep.Upon
namespace Go.Proofs.Yteblbleehnkcmaa
open Go.RowKit Go.Sort
set_option linter.unusedSimpArgs false
set_option linter.unusedVariables false

/-- append of a slice (of nothing too) to a row of one's own -/
theorem wpList_app3 {P : Program} {w : World} {ops : Array Oper} {rest : List Oper} {o : Oper} {a : Act} {Q : Exit → Act → World → Prop} (hgd : o.guard = none) (s x : Operand) (t : TypeId)
    (ho : o.op = .call { callee := .builtin .append, args := #[s, x], argTypes := #[t, t] })
    (base : Nat) (e : TypeId) (i : TypeInfo) (z : Value) (size bytes : Nat) (ht : P.underlying t = some (.slice e)) (hi : P.info? e = some i) (hz : i.zero = some z)
    (hsize : i.size = size) (hby : i.bytes = bytes) (hzs : z.cells.size = size) (hsz : 0 < size)
    (A : Option Addr) (n c : Nat) (xs : List Value) (hs : a.eval s = .slice A n c) (hown : w.ownsRow base e size (.slice A n c) n xs)
    (X : Option Addr) (m c' : Nat) (news : List Value) (B : Nat) (hx : a.eval x = .slice X m c') (hl : news.length = m * size) (hnews : Rd w B X news) (h1 : ∀ u ∈ news, u.oneCell' = true)
    (h63 : n + m ≤ maxLen) (hbytes : (n + m) * bytes ≤ 140737488355328) (hbase : base ≤ w.heap.size)
    (h : ∀ A' cap w', w'.ownsRow base e size (.slice A' (n + m) cap) (n + m) (xs ++ news) → Below base w w' → w.grownBy w' (Value.slice A n c).ownBlock → wpList P ops Q rest (a.put o.dst (.slice A' (n + m) cap)) w') : wpList P ops Q (o :: rest) a w := by
  rcases X with _ | ad
  · have hn : news = [] := Classical.byContradiction fun hne => by
      obtain ⟨ad, e, _⟩ := hnews hne
      cases e
    subst hn
    have hm : m = 0 := by
      rcases Nat.eq_zero_or_pos m with h | h
      · exact h
      · have := Nat.mul_pos h hsz; simp at hl; omega
    subst hm
    have hnc : n ≤ c := by
      rcases hown.2 with ⟨hv, hn⟩ | ⟨g, cap, cur, hv, _, _, hle, _⟩
      · omega
      · cases hv; exact hle
    have hrun := fun ty => run_append_nothing (P := P) w t t ty e i ht hi A n c hnc (.slice none 0 c') (Src.ofNil w ht c')
    refine wpList_plain hgd fun K hK => ?_
    unfold Oper.wp
    simp [execOp, ho, resolve, invoke, builtin, hs, hx, hrun, Result.andThen]
    exact hK _ _ (h A c w (by simpa using hown) (Below.refl _ _) (Gr.refl w _))
  · refine wpList_append_own w hgd s x t ho base e i z size bytes ht hi hz hsize hby hzs hsz (.slice A n c) n xs hs hown ad m c' news hx hl ?_ h1 h63 hbytes hbase fun v' w' h2 h3 _ => ?_
    · intro j u hu
      obtain ⟨ad', e, _, hc⟩ := hnews (by rintro h0; rw [h0] at hu; simp at hu)
      injection e with e; subst e
      exact hc j u hu
    · obtain ⟨A', cap, rfl⟩ := own_form h2
      exact h A' cap w' h2 ((Below.refl base w).grown h3 hbase (fun k hk => (hown.lt k hk).1)) h3
theorem rfl_info : (Try.prog.info? 73).map (fun i => (i.zero, i.size, i.bytes)) = some (some (flV ⟨0, 0, 0⟩), 3, 24) := by kernel_rfl
set_option maxRecDepth 100000 in
set_option maxHeartbeats 8000000 in
theorem ref_Join_any (A : Option Addr) (c : Nat) (l : List Fl) (at_ : Int) (mid : Bool) (id wt : Int) (w : World) (hl : l.length ≤ 1000) (ha : Rd w w.heap.size A (flR l)) :
    Calls Try.prog 19 #[rsV A l.length c at_ mid, .int .i64 id, .int .i64 wt] w fun e w' => ∃ V', e = .returned (.tuple #[V', .int .i64 (dJoin l at_ mid id wt).2]) ∧ DAt w' V' (dJoin l at_ mid id wt).1 at_ mid ∧ Below w.heap.size w w' := by
  obtain ⟨iT, hi, hz0, hz1, hz2⟩ := info_parts rfl_info
  have hC := fun (W : World) (h : Below w.heap.size w W) => ref_Check_any A c l at_ mid W hl ((ha.below h).more h.size)
  have hF := fun (W : World) (h : Below w.heap.size w W) => ref_place_any A c l at_ mid id W hl ((ha.below h).more h.size)
  have h1 := fun W => ref_in_any id 0 255 W
  have h2 := fun W => ref_in_any wt 1 8 W
  have hfw : ∀ a b, dIn id 0 255 = a → dIn wt 1 8 = b → fWrong ⟨id, wt, 0⟩ = (!a || !b) := by rintro a b rfl rfl; simp [fWrong, dIn]
  go_enter Try.func19, Try.ntmps19
  go_wp2_with fail
  generalize hV : World.alloc (World.alloc w _) _ = w1
  have hb1 : Below w.heap.size w w1 := by subst hV; (repeat (first | with_reducible exact Below.refl _ _ | with_reducible assumption | with_reducible refine Below.drew ?_ | with_reducible refine Below.drewN ?_ _ | with_reducible refine Below.alloc1 ?_ _ | with_reducible refine Below.setCell1 ?_ (by first | omega | (simp; done) | (simp; omega)) _ | with_reducible refine Below.step ?_ (by with_reducible assumption)))
  have k0 : Bk w1 w.heap.size 24 (dsC A l.length c at_ mid) := by subst hV; (repeat (first | with_reducible exact Bk.new' _ _ _ _ (by simp; done) | with_reducible assumption | with_reducible refine Bk.alloc ?_ _ | with_reducible refine Bk.drew ?_ | with_reducible refine Bk.drewN ?_ _ | with_reducible refine Bk.step ?_ (by with_reducible assumption) | with_reducible refine Bk.far ?_ (by first | omega | (simp; done) | (simp; omega)) _))
  have k1 : Bk w1 (w.heap.size + 1) 24 (dsC none 0 0 0 false) := by subst hV; (repeat (first | with_reducible exact Bk.new' _ _ _ _ (by simp; done) | with_reducible assumption | with_reducible refine Bk.alloc ?_ _ | with_reducible refine Bk.drew ?_ | with_reducible refine Bk.drewN ?_ _ | with_reducible refine Bk.step ?_ (by with_reducible assumption) | with_reducible refine Bk.far ?_ (by first | omega | (simp; done) | (simp; omega)) _))
  clear hV
  refine (hC _ hb1).mono ?_; rintro e x0 ⟨rfl, hx0⟩
  replace k0 := k0.step hx0
  replace k1 := k1.step hx0
  replace hb1 : Below w.heap.size w x0 := hb1.step hx0
  clear hx0
  have k0_0 := k0.cell 0; have k0_f0 := k0.frozen 0; have k0_1 := k0.cell 1; have k0_f1 := k0.frozen 1; have k0_2 := k0.cell 2; have k0_f2 := k0.frozen 2; simp only [List.set_cons_zero, List.set_cons_succ, List.getElem?_cons_zero, List.getElem?_cons_succ] at k0_0 k0_1 k0_2; have lt_k0 := k0.lt; have k1_0 := k1.cell 0; have k1_f0 := k1.frozen 0; have k1_1 := k1.cell 1; have k1_f1 := k1.frozen 1; have k1_2 := k1.cell 2; have k1_f2 := k1.frozen 2; simp only [List.set_cons_zero, List.set_cons_succ, List.getElem?_cons_zero, List.getElem?_cons_succ] at k1_0 k1_1 k1_2; have lt_k1 := k1.lt
  by_cases he : dCheck l at_ mid = 0
  · have hr1 : dJoin l at_ mid id wt = if fWrong ⟨id, wt, 0⟩ = true then (l, 8) else if dFind l id ≠ -1 then (l, 13) else if l.length = 16 then (l, 7) else (l ++ [⟨id, wt, 0⟩], 0) := by unfold dJoin; rw [if_neg (by simpa using he)]
    have HR := hide hr1
    have h16 := (dCheck_ok he).1
    rw [he]
    clear he hr1 hC
    generalize dIn id 0 255 = b1 at *
    generalize dIn wt 1 8 = b2 at *
    have hfw := hfw _ _ rfl rfl
    have HFW := hide hfw
    clear hfw
    go_wp2_with fail
    refine (h1 _).mono ?_; rintro e x1 ⟨rfl, rfl⟩
    cases b1 with
    | false =>
      have hr2 := HR.out
      rw [if_pos (by rw [HFW.out]; simp)] at hr2
      replace HR := hide hr2
      clear hr2 HFW
      go_wp2_with fail
      (try clear k0_0 k0_f0 k0_1 k0_f1 k0_2 k0_f2 lt_k0) ; (try clear k1_0 k1_f0 k1_1 k1_f1 k1_2 k1_f2 lt_k1)
      generalize hV : World.setCell (World.setCell (World.setCell x0 _ _) _ _) _ _ = w4
      have hb4 : Below w.heap.size w w4 := by subst hV; exact ((hb1.setCell (by dsimp only; omega) _).setCell (by dsimp only; omega) _).setCell (by dsimp only; omega) _
      replace k1 : Bk w4 (w.heap.size + 1) 24 (dsC A l.length c at_ mid) := by subst hV; exact ((k1.set_ 0 _).set_ 1 _).set_ 2 _
      clear hV
      have k1_0 := k1.cell 0; have k1_f0 := k1.frozen 0; have k1_1 := k1.cell 1; have k1_f1 := k1.frozen 1; have k1_2 := k1.cell 2; have k1_f2 := k1.frozen 2; simp only [List.set_cons_zero, List.set_cons_succ, List.getElem?_cons_zero, List.getElem?_cons_succ] at k1_0 k1_1 k1_2; have lt_k1 := k1.lt
      exact bodyPost_ret (v := .tuple #[dsV A l.length c at_ mid, .int .i64 8]) (by simp only [results, Try.results19]; go_simp) rfl ⟨_, by rw [HR.out], by rw [HR.out]; exact ⟨A, c, rfl, (ha.below hb4).more hb4.size⟩, hb4⟩
    | true =>
      go_wp2_with fail
      refine (h2 _).mono ?_; rintro e x1 ⟨rfl, rfl⟩
      cases b2 with
      | false =>
        have hr2 := HR.out
        rw [if_pos (by rw [HFW.out]; simp)] at hr2
        replace HR := hide hr2
        clear hr2 HFW
        go_wp2_with fail
        (try clear k0_0 k0_f0 k0_1 k0_f1 k0_2 k0_f2 lt_k0) ; (try clear k1_0 k1_f0 k1_1 k1_f1 k1_2 k1_f2 lt_k1)
        generalize hV : World.setCell (World.setCell (World.setCell x0 _ _) _ _) _ _ = w4
        have hb4 : Below w.heap.size w w4 := by subst hV; exact ((hb1.setCell (by dsimp only; omega) _).setCell (by dsimp only; omega) _).setCell (by dsimp only; omega) _
        replace k1 : Bk w4 (w.heap.size + 1) 24 (dsC A l.length c at_ mid) := by subst hV; exact ((k1.set_ 0 _).set_ 1 _).set_ 2 _
        clear hV
        have k1_0 := k1.cell 0; have k1_f0 := k1.frozen 0; have k1_1 := k1.cell 1; have k1_f1 := k1.frozen 1; have k1_2 := k1.cell 2; have k1_f2 := k1.frozen 2; simp only [List.set_cons_zero, List.set_cons_succ, List.getElem?_cons_zero, List.getElem?_cons_succ] at k1_0 k1_1 k1_2; have lt_k1 := k1.lt
        exact bodyPost_ret (v := .tuple #[dsV A l.length c at_ mid, .int .i64 8]) (by simp only [results, Try.results19]; go_simp) rfl ⟨_, by rw [HR.out], by rw [HR.out]; exact ⟨A, c, rfl, (ha.below hb4).more hb4.size⟩, hb4⟩
      | true =>
        have hr2 := HR.out
        rw [if_neg (by rw [HFW.out]; simp)] at hr2
        replace HR := hide hr2
        clear hr2 HFW h1 h2
        go_wp2_with fail
        refine (hF _ hb1).mono ?_; rintro e x4 ⟨rfl, hx4⟩
        replace k0 := k0.step hx4; (try clear k0_0 k0_f0 k0_1 k0_f1 k0_2 k0_f2); have k0_0 := k0.cell 0; have k0_f0 := k0.frozen 0; have k0_1 := k0.cell 1; have k0_f1 := k0.frozen 1; have k0_2 := k0.cell 2; have k0_f2 := k0.frozen 2; simp only [List.set_cons_zero, List.set_cons_succ, List.getElem?_cons_zero, List.getElem?_cons_succ] at k0_0 k0_1 k0_2; (try clear lt_k0); have lt_k0 := k0.lt; replace k1 := k1.step hx4; (try clear k1_0 k1_f0 k1_1 k1_f1 k1_2 k1_f2); have k1_0 := k1.cell 0; have k1_f0 := k1.frozen 0; have k1_1 := k1.cell 1; have k1_f1 := k1.frozen 1; have k1_2 := k1.cell 2; have k1_f2 := k1.frozen 2; simp only [List.set_cons_zero, List.set_cons_succ, List.getElem?_cons_zero, List.getElem?_cons_succ] at k1_0 k1_1 k1_2; (try clear lt_k1); have lt_k1 := k1.lt
        replace hb1 : Below w.heap.size w x4 := hb1.step hx4
        clear hx4 hF
        by_cases hf : dFind l id = -1
        · have hr := HR.out
          rw [if_neg (by simpa using hf)] at hr
          rw [hf]
          replace HR := hide hr
          clear hr hf
          by_cases h17 : l.length = 16
          · have hr := HR.out
            rw [if_pos h17] at hr
            have d1 : (16 : Int) ≤ (l.length : Int) := by omega
            replace HR := hide hr
            clear h17 hr
            go_wp2_with fail
            (try clear k0_0 k0_f0 k0_1 k0_f1 k0_2 k0_f2 lt_k0) ; (try clear k1_0 k1_f0 k1_1 k1_f1 k1_2 k1_f2 lt_k1)
            generalize hV : World.setCell (World.setCell (World.setCell x4 _ _) _ _) _ _ = w4
            have hb4 : Below w.heap.size w w4 := by subst hV; exact ((hb1.setCell (by dsimp only; omega) _).setCell (by dsimp only; omega) _).setCell (by dsimp only; omega) _
            replace k1 : Bk w4 (w.heap.size + 1) 24 (dsC A l.length c at_ mid) := by subst hV; exact ((k1.set_ 0 _).set_ 1 _).set_ 2 _
            clear hV
            have k1_0 := k1.cell 0; have k1_f0 := k1.frozen 0; have k1_1 := k1.cell 1; have k1_f1 := k1.frozen 1; have k1_2 := k1.cell 2; have k1_f2 := k1.frozen 2; simp only [List.set_cons_zero, List.set_cons_succ, List.getElem?_cons_zero, List.getElem?_cons_succ] at k1_0 k1_1 k1_2; have lt_k1 := k1.lt
            exact bodyPost_ret (v := .tuple #[dsV A l.length c at_ mid, .int .i64 7]) (by simp only [results, Try.results19]; go_simp) rfl ⟨_, by rw [HR.out], by rw [HR.out]; exact ⟨A, c, rfl, (ha.below hb4).more hb4.size⟩, hb4⟩
          · have hr := HR.out
            rw [if_neg h17] at hr
            have d1 : (l.length : Int) < 16 := by omega
            replace HR := hide hr
            clear h17 hr
            have lx0 := k0.lt
            have lx1 := k1.lt
            have rA := ha.below hb1
            go_wp2_with (at_builtin; first
              | (refine wpList_app3 rfl (.tmp 38) (.tmp 40) 22 rfl x4.heap.size 73 iT _ 3 24 Try.underlying22 hi hz0 hz1 hz2 rfl (by omega) none 0 0 [] rfl ⟨rfl, .inl ⟨rfl, rfl⟩⟩ A l.length c (flR l) w.heap.size rfl (by rw [flR_length]; omega) rA (flR_one l) (by unfold maxLen; omega) (by omega) (Nat.le_refl _) ?_; intro A7 cap7 w7 own7 hb7 hgr7; rw [Nat.zero_add, List.nil_append] at own7; (have k7 := k0.below hb7 lx0); (have m7 := k1.below hb7 lx1); have k7_0 := k7.cell 0; have k7_f0 := k7.frozen 0; have k7_1 := k7.cell 1; have k7_f1 := k7.frozen 1; have k7_2 := k7.cell 2; have k7_f2 := k7.frozen 2; simp only [List.set_cons_zero, List.set_cons_succ, List.getElem?_cons_zero, List.getElem?_cons_succ] at k7_0 k7_1 k7_2; have m7_0 := m7.cell 0; have m7_f0 := m7.frozen 0; have m7_1 := m7.cell 1; have m7_f1 := m7.frozen 1; have m7_2 := m7.cell 2; have m7_f2 := m7.frozen 2; simp only [List.set_cons_zero, List.set_cons_succ, List.getElem?_cons_zero, List.getElem?_cons_succ] at m7_0 m7_1 m7_2; (have lt7 := hb7.size); rw [Nat.zero_add])
              | (refine wpList_app2 rfl (.tmp 41) (.tmp 45) 22 rfl x4.heap.size 73 iT _ 3 24 Try.underlying22 hi hz0 hz1 hz2 rfl (by omega) A7 l.length cap7 (flR l) rfl (own7.alloc _) ⟨w7.heap.size, 0, none⟩ 1 1 (flC ⟨id, wt, 0⟩) rfl rfl (news_at (w := w7) (cs := flC ⟨id, wt, 0⟩) (e := 73)) (by simp [Value.oneCell']) (by unfold maxLen; omega) (by omega) (by simp; omega) (by omega) ?_; intro g8 cap8 w8 own8 hb8 hgr8; (have k8 := (k7.alloc (.cells (flC ⟨id, wt, 0⟩).toArray 73)).below hb8 (by omega)); (have m8 := (m7.alloc (.cells (flC ⟨id, wt, 0⟩).toArray 73)).below hb8 (by omega)); have k8_0 := k8.cell 0; have k8_f0 := k8.frozen 0; have k8_1 := k8.cell 1; have k8_f1 := k8.frozen 1; have k8_2 := k8.cell 2; have k8_f2 := k8.frozen 2; simp only [List.set_cons_zero, List.set_cons_succ, List.getElem?_cons_zero, List.getElem?_cons_succ] at k8_0 k8_1 k8_2; have m8_0 := m8.cell 0; have m8_f0 := m8.frozen 0; have m8_1 := m8.cell 1; have m8_f1 := m8.frozen 1; have m8_2 := m8.cell 2; have m8_f2 := m8.frozen 2; simp only [List.set_cons_zero, List.set_cons_succ, List.getElem?_cons_zero, List.getElem?_cons_succ] at m8_0 m8_1 m8_2; (have lt8 := hb8.size); (have lk8 := k8.lt); (have lm8 := m8.lt)))
            (try clear k7_0 k7_f0 k7_1 k7_f1 k7_2 k7_f2 lt_k7) ; (try clear m7_0 m7_f0 m7_1 m7_f1 m7_2 m7_f2 lt_m7) ; (try clear k8_0 k8_f0 k8_1 k8_f1 k8_2 k8_f2 lt_k8) ; (try clear m8_0 m8_f0 m8_1 m8_f1 m8_2 m8_f2 lt_m8) ; (try clear k0_0 k0_f0 k0_1 k0_f1 k0_2 k0_f2 lt_k0) ; (try clear k1_0 k1_f0 k1_1 k1_f1 k1_2 k1_f2 lt_k1)
            generalize hV : World.setCell (World.setCell (World.setCell (World.setCell w8 _ _) _ _) _ _) _ _ = w9
            have hb8' : Below w.heap.size w w8 := ((hb1.trans (hb7.mono (by omega))).alloc (by omega) _).trans (hb8.mono (by omega))
            have hb9 : Below w.heap.size w w9 := by subst hV; exact (((hb8'.setCell (by dsimp only; omega) _).setCell (by dsimp only; omega) _).setCell (by dsimp only; omega) _).setCell (by dsimp only; omega) _
            replace m8 : Bk w9 (w.heap.size + 1) 24 (dsC (some ⟨g8, 0, none⟩) (l.length + 1) cap8 at_ mid) := by subst hV; exact (((m8.far (by dsimp only; omega) _).set_ 0 _).set_ 1 _).set_ 2 _
            replace own8 : w9.ownsRow x4.heap.size 73 3 (.slice (some ⟨g8, 0, none⟩) (l.length + 1) cap8) (l.length + 1) (flR l ++ flC ⟨id, wt, 0⟩) := by subst hV; refine own_far (own_far (own_far (own_far own8 ?_ _) ?_ _) ?_ _) ?_ _ <;> (dsimp only; omega)
            clear hV
            have m8_0 := m8.cell 0; have m8_f0 := m8.frozen 0; have m8_1 := m8.cell 1; have m8_f1 := m8.frozen 1; have m8_2 := m8.cell 2; have m8_f2 := m8.frozen 2; simp only [List.set_cons_zero, List.set_cons_succ, List.getElem?_cons_zero, List.getElem?_cons_succ] at m8_0 m8_1 m8_2; have lt_m8 := m8.lt
            have hrr : Rd w9 w9.heap.size (some ⟨g8, 0, none⟩) (flR (l ++ [⟨id, wt, 0⟩])) := by
              have := own_rd own8
              rwa [show flR (l ++ [⟨id, wt, 0⟩]) = flR l ++ flC ⟨id, wt, 0⟩ by simp [flR]]
            exact bodyPost_ret (v := .tuple #[dsV (some ⟨g8, 0, none⟩) (l.length + 1) cap8 at_ mid, .int .i64 0]) (by simp only [results, Try.results19]; go_simp) rfl ⟨_, by rw [HR.out], by rw [HR.out]; exact ⟨some ⟨g8, 0, none⟩, cap8, by rw [List.length_append]; rfl, hrr⟩, hb9⟩
        · have hr := HR.out
          rw [if_pos (by simpa using hf)] at hr
          obtain ⟨k, hk, _⟩ := idxI_in _ _ hf
          change dFind l id = _ at hk
          rw [hk]
          have d1 : (0 : Int) ≤ (k : Int) := by omega
          replace HR := hide hr
          clear hf hr hk
          go_wp2_with fail
          (try clear k0_0 k0_f0 k0_1 k0_f1 k0_2 k0_f2 lt_k0) ; (try clear k1_0 k1_f0 k1_1 k1_f1 k1_2 k1_f2 lt_k1)
          generalize hV : World.setCell (World.setCell (World.setCell x4 _ _) _ _) _ _ = w4
          have hb4 : Below w.heap.size w w4 := by subst hV; exact ((hb1.setCell (by dsimp only; omega) _).setCell (by dsimp only; omega) _).setCell (by dsimp only; omega) _
          replace k1 : Bk w4 (w.heap.size + 1) 24 (dsC A l.length c at_ mid) := by subst hV; exact ((k1.set_ 0 _).set_ 1 _).set_ 2 _
          clear hV
          have k1_0 := k1.cell 0; have k1_f0 := k1.frozen 0; have k1_1 := k1.cell 1; have k1_f1 := k1.frozen 1; have k1_2 := k1.cell 2; have k1_f2 := k1.frozen 2; simp only [List.set_cons_zero, List.set_cons_succ, List.getElem?_cons_zero, List.getElem?_cons_succ] at k1_0 k1_1 k1_2; have lt_k1 := k1.lt
          exact bodyPost_ret (v := .tuple #[dsV A l.length c at_ mid, .int .i64 13]) (by simp only [results, Try.results19]; go_simp) rfl ⟨_, by rw [HR.out], by rw [HR.out]; exact ⟨A, c, rfl, (ha.below hb4).more hb4.size⟩, hb4⟩
  · have hr : dJoin l at_ mid id wt = (l, dCheck l at_ mid) := by unfold dJoin; rw [if_pos he]
    have HR := hide hr
    have hne : (dCheck l at_ mid != 0) = true := by simpa using he
    generalize dCheck l at_ mid = ec at *
    clear he hr
    go_wp2_with fail
    refine wp_region_mt 3 [(2, only (.int .i64 ec))] (by kernel_rfl) (by kernel_rfl) (by kernel_rfl) (by kernel_rfl) (sts_cons (sts_only _) sts_nil) (fun kq => ?_); (try dsimp only [List.append, List.take])
    (repeat (refine wpM_via (by kernel_rfl) ?_; go_big_quiet_step (fail); refine wpQuiet_nil ?_))
    (refine wpM_only _ (.int .i64 ec) (by kernel_rfl) (by kernel_rfl) rfl (later_some _) ?_ ?_; (focus (intro x hx hk; obtain ⟨px, rfl⟩ := hx; go_simp; (first | with_reducible refine mUpon_enter ?_ | with_reducible refine mUpon_value ?_); go_at_call 23; exact (hC _ (hb1.step (below_regrown x0 _ _))).mo)); intro K hK; go_big_quiet_op; refine hK _ ?_; clear hK K)
    refine wpM_nil ?_; intro wq hwq hfq; have hbq := below_of_class hwq; clear hwq kq; (try dsimp only [List.drop])
    replace k0 := k0.step hbq; (try clear k0_0 k0_f0 k0_1 k0_f1 k0_2 k0_f2); have k0_0 := k0.cell 0; have k0_f0 := k0.frozen 0; have k0_1 := k0.cell 1; have k0_f1 := k0.frozen 1; have k0_2 := k0.cell 2; have k0_f2 := k0.frozen 2; simp only [List.set_cons_zero, List.set_cons_succ, List.getElem?_cons_zero, List.getElem?_cons_succ] at k0_0 k0_1 k0_2; (try clear lt_k0); have lt_k0 := k0.lt; replace k1 := k1.step hbq; (try clear k1_0 k1_f0 k1_1 k1_f1 k1_2 k1_f2); have k1_0 := k1.cell 0; have k1_f0 := k1.frozen 0; have k1_1 := k1.cell 1; have k1_f1 := k1.frozen 1; have k1_2 := k1.cell 2; have k1_f2 := k1.frozen 2; simp only [List.set_cons_zero, List.set_cons_succ, List.getElem?_cons_zero, List.getElem?_cons_succ] at k1_0 k1_1 k1_2; (try clear lt_k1); have lt_k1 := k1.lt
    replace hb1 : Below w.heap.size w wq := hb1.step hbq
    clear hfq hbq
    go_wp2
    (try clear k0_0 k0_f0 k0_1 k0_f1 k0_2 k0_f2 lt_k0) ; (try clear k1_0 k1_f0 k1_1 k1_f1 k1_2 k1_f2 lt_k1)
    generalize hV : World.setCell (World.setCell (World.setCell wq _ _) _ _) _ _ = w4
    have hb4 : Below w.heap.size w w4 := by subst hV; exact ((hb1.setCell (by dsimp only; omega) _).setCell (by dsimp only; omega) _).setCell (by dsimp only; omega) _
    replace k1 : Bk w4 (w.heap.size + 1) 24 (dsC A l.length c at_ mid) := by subst hV; exact ((k1.set_ 0 _).set_ 1 _).set_ 2 _
    clear hV
    have k1_0 := k1.cell 0; have k1_f0 := k1.frozen 0; have k1_1 := k1.cell 1; have k1_f1 := k1.frozen 1; have k1_2 := k1.cell 2; have k1_f2 := k1.frozen 2; simp only [List.set_cons_zero, List.set_cons_succ, List.getElem?_cons_zero, List.getElem?_cons_succ] at k1_0 k1_1 k1_2; have lt_k1 := k1.lt
    exact bodyPost_ret (v := .tuple #[dsV A l.length c at_ mid, .int .i64 ec]) (by simp only [results, Try.results19]; go_simp) rfl ⟨_, by rw [HR.out], by rw [HR.out]; exact ⟨A, c, rfl, (ha.below hb4).more hb4.size⟩, hb4⟩
end Go.Proofs.Yteblbleehnkcmaa
