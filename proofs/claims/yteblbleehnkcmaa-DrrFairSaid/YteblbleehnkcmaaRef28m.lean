/- callboyref28: Serve. -/
import Derived.Test.YteblbleehnkcmaaRef28l
import Derived.Deep.RegionHeld3
namespace Go.Proofs.Yteblbleehnkcmaa
open Go.RowKit Go.Sort
set_option linter.unusedSimpArgs false
set_option linter.unusedVariables false

theorem drop_run (X : Option Addr) (xs : List Int) (c gn : Nat) (v : Int) (hv : v = gn) (hk : gn ≤ xs.length) (hc : xs.length ≤ c) {w : World} {B : Nat} (h : Rd w B X (ints xs)) :
    ∃ A2 c2, (∀ W, (Instr.slice 35 (.slice X xs.length c) (some (.int .i64 v)) none none).run Try.prog W = .ok (.slice A2 (xs.length - gn) c2) W) ∧ (∀ W, (Instr.sliceAt 35 (.slice X xs.length c) (some (.int .i64 v)) none none).run Try.prog W = .ok (.slice A2 (xs.length - gn) c2) W) ∧ Rd w B A2 (ints (xs.drop gn)) := by
  have hsz : ∀ W, (sizeOf 3).run Try.prog W = .ok 1 W := fun W => by kernel_rfl
  have hel : Try.prog.elem 35 = 3 := by kernel_rfl
  have hi : ints (xs.drop gn) = (ints xs).drop gn := by unfold ints; rw [List.map_drop]
  rcases X with _ | ad
  · have hn : xs = [] := Classical.byContradiction fun hne => by
      obtain ⟨ad, e, _⟩ := h (by simpa [ints] using hne)
      cases e
    subst hn
    have hg : gn = 0 := by simpa using hk
    subst hg
    subst hv
    have hu : Try.prog.underlying 35 = some (.slice (Try.prog.elem 35)) := by rw [hel]; exact Try.underlying35
    have hb : ∀ W, (Instr.slice 35 (.slice none ([] : List Int).length c) (some (.int .i64 ((0 : Nat) : Int))) none none).run Try.prog W = .ok (.slice none (([] : List Int).length - 0) c) W := fun W => by
      rw [run_slice_l (ht := hu) (h0 := by omega) (h1 := by simp), hel, hsz]
      simp [sliced]
    exact ⟨none, c, hb, fun W => (run_sliceAt_slice W _ _ _ _ _ hu).trans (hb W), Rd.nil⟩
  · obtain ⟨A2, hA, s1, s2⟩ := from_run Try.underlying35 hel hsz ad gn xs.length c v hv hk hc
    refine ⟨A2, c - gn, s1, s2, ?_⟩
    rcases hA with ⟨_, e⟩ | e
    · have : xs.drop gn = [] := List.drop_eq_nil_of_le (by omega)
      rw [this]; exact Rd.nil
    · rw [e, hi, Nat.mul_one]; exact h.drop gn
theorem own_beside {w : World} {base : Nat} {e : TypeId} {size g n c m : Nat} {xs : List Value} (h : w.ownsRow base e size (.slice (some ⟨g, 0, none⟩) n c) m xs) {G : Nat} (hne : g ≠ G) (i : Nat) (u : Value) : (w.setCell ⟨G, i, none⟩ u).ownsRow base e size (.slice (some ⟨g, 0, none⟩) n c) m xs :=
  h.kept (row := some G) (Gr.set_ (Gr.refl w (some G)) (.inl rfl) u) (.inr fun e => hne (by simpa [Value.ownBlock] using e))
noncomputable def muOf {ι : Type} (R : ι → Prop) (m : ι → Nat) : Nat := by
  classical
  exact if h : ∃ n, ∃ i, R i ∧ m i = n then Classical.choose (min_of h) else 0
theorem muOf_le {ι : Type} {R : ι → Prop} {m : ι → Nat} {i : ι} (hi : R i) : muOf R m ≤ m i := by
  have h : ∃ n, ∃ i, R i ∧ m i = n := ⟨m i, i, hi, rfl⟩
  unfold muOf
  rw [dif_pos h]
  exact (Classical.choose_spec (min_of h)).2 _ ⟨i, hi, rfl⟩
theorem muOf_at {ι : Type} {R : ι → Prop} {m : ι → Nat} (hR : ∃ i, R i) : ∃ i, R i ∧ m i = muOf R m := by
  obtain ⟨i, hi⟩ := hR
  have h : ∃ n, ∃ i, R i ∧ m i = n := ⟨m i, i, hi, rfl⟩
  obtain ⟨j, hj, hm⟩ := (Classical.choose_spec (min_of h)).1
  refine ⟨j, hj, ?_⟩
  unfold muOf
  rw [dif_pos h, hm]
/-- what holds ahead of a round of the document's Serve -/
def SvR (w : World) (bx G : Nat) (A7 : Option Addr) (cap7 n : Nat) (q : Int) (ld : List Ld) (SR : SR) (s : RS) (lv : Value) (wr : World) : Prop :=
  lv = .int .i64 s.left ∧ SR = (dLoop q (dMu s + 1) s).sr ∧ (dOp s.wt = 0 ∨ RsOk q s ∧ RsSum s) ∧ (s.fl.length = n ∧ s.went.length = n ∧ s.wt.length = n) ∧ Wrel ld s ∧ Bk wr w.heap.size 24 (dsC A7 n cap7 s.at_ s.mid) ∧ Bk wr (w.heap.size + 1) 24 (dsC none 0 0 0 false) ∧ wr.ownsRow bx 73 3 (.slice A7 n cap7) n (flR s.fl) ∧ Bk wr G 3 (ints s.went) ∧ Below w.heap.size w wr
set_option maxRecDepth 100000 in
set_option maxHeartbeats 16000000 in
theorem ref_Serve_any (A C : Option Addr) (c d : Nat) (l : List Fl) (at_ : Int) (mid : Bool) (q t : Int) (ld : List Ld) (w : World) (hl : l.length ≤ 1000) (hld : ld.length ≤ 1000) (hx : ∀ x ∈ ld, x.xs.length ≤ 1000) (ha : Rd w w.heap.size A (flR l)) (hd : Lds w w.heap.size C ld) :
    Calls Try.prog 12 #[rsV A l.length c at_ mid, .int .i64 q, .int .i64 t, .slice C ld.length d] w fun e w' => ∃ V' B b, e = .returned (.tuple #[V', .slice B (dServe l at_ mid q t ld).went.length b, .int .i64 (dServe l at_ mid q t ld).e]) ∧
      DAt w' V' (dServe l at_ mid q t ld).fl (dServe l at_ mid q t ld).at_ (dServe l at_ mid q t ld).mid ∧ Rd w' w'.heap.size B (ints (dServe l at_ mid q t ld).went) ∧ Below w.heap.size w w' := by
  obtain ⟨iT, hi, hz0, hz1, hz2⟩ := info_parts rfl_info
  obtain ⟨i0, hi0, hz, hsz, hby⟩ := info_parts int_info
  have hmk := fun W => run_make1 (P := Try.prog) 35 3 i0 (.int .i64 0) Try.underlying35 hi0 hz rfl hsz l.length (by rw [hby]; omega) (by omega) W
  clear hi0 hz hsz hby
  have hC := fun (W : World) (h : Below w.heap.size w W) => ref_Check_any A c l at_ mid W hl ((ha.below h).more h.size)
  have hM := fun (W : World) (h : Below w.heap.size w W) => ref_may_any q t C d ld W hld hx ((hd.below h).more h.size)
  have HX := hide hx
  clear hx
  generalize hSR : dServe l at_ mid q t ld = SR
  go_enter Try.func12, Try.ntmps12
  go_wp2_with fail
  generalize hV : World.alloc (World.alloc w _) _ = w1
  have hb1 : Below w.heap.size w w1 := by subst hV; (repeat (first | with_reducible exact Below.refl _ _ | with_reducible assumption | with_reducible refine Below.drew ?_ | with_reducible refine Below.drewN ?_ _ | with_reducible refine Below.alloc1 ?_ _ | with_reducible refine Below.setCell1 ?_ (by first | omega | (simp; done) | (simp; omega)) _ | with_reducible refine Below.step ?_ (by with_reducible assumption)))
  have k0 : Bk w1 w.heap.size 24 (dsC A l.length c at_ mid) := by subst hV; (repeat (first | with_reducible exact Bk.new' _ _ _ _ (by simp; done) | with_reducible assumption | with_reducible refine Bk.alloc ?_ _ | with_reducible refine Bk.drew ?_ | with_reducible refine Bk.drewN ?_ _ | with_reducible refine Bk.step ?_ (by with_reducible assumption) | with_reducible refine Bk.far ?_ (by first | omega | (simp; done) | (simp; omega)) _))
  have k1 : Bk w1 (w.heap.size + 1) 24 (dsC none 0 0 0 false) := by subst hV; (repeat (first | with_reducible exact Bk.new' _ _ _ _ (by simp; done) | with_reducible assumption | with_reducible refine Bk.alloc ?_ _ | with_reducible refine Bk.drew ?_ | with_reducible refine Bk.drewN ?_ _ | with_reducible refine Bk.step ?_ (by with_reducible assumption) | with_reducible refine Bk.far ?_ (by first | omega | (simp; done) | (simp; omega)) _))
  clear hV
  refine (hC _ hb1).mono ?_; rintro e x0 ⟨rfl, hx0⟩
  replace k0 := k0.step hx0
  replace k1 := k1.step hx0
  replace hb1 : Below w.heap.size w x0 := hb1.step hx0
  clear hx0
  have k0_0 := k0.cell 0; have k0_f0 := k0.frozen 0; have k0_1 := k0.cell 1; have k0_f1 := k0.frozen 1; have k0_2 := k0.cell 2; have k0_f2 := k0.frozen 2; simp only [List.set_cons_zero, List.set_cons_succ, List.getElem?_cons_zero, List.getElem?_cons_succ] at k0_0 k0_1 k0_2; have lt_k0 := k0.lt; have k1_0 := k1.cell 0; have k1_f0 := k1.frozen 0; have k1_1 := k1.cell 1; have k1_f1 := k1.frozen 1; have k1_2 := k1.cell 2; have k1_f2 := k1.frozen 2; simp only [List.set_cons_zero, List.set_cons_succ, List.getElem?_cons_zero, List.getElem?_cons_succ] at k1_0 k1_1 k1_2; have lt_k1 := k1.lt
  by_cases he : dCheck l at_ mid = 0
  · have hne0 : (dCheck l at_ mid != 0) = false := by rw [he]; rfl
    rw [he]
    go_wp2_with fail
    refine (hM _ hb1).mono ?_; rintro e x1 ⟨rfl, hx1⟩
    replace k0 := k0.step hx1; (try clear k0_0 k0_f0 k0_1 k0_f1 k0_2 k0_f2); have k0_0 := k0.cell 0; have k0_f0 := k0.frozen 0; have k0_1 := k0.cell 1; have k0_f1 := k0.frozen 1; have k0_2 := k0.cell 2; have k0_f2 := k0.frozen 2; simp only [List.set_cons_zero, List.set_cons_succ, List.getElem?_cons_zero, List.getElem?_cons_succ] at k0_0 k0_1 k0_2; (try clear lt_k0); have lt_k0 := k0.lt; replace k1 := k1.step hx1; (try clear k1_0 k1_f0 k1_1 k1_f1 k1_2 k1_f2); have k1_0 := k1.cell 0; have k1_f0 := k1.frozen 0; have k1_1 := k1.cell 1; have k1_f1 := k1.frozen 1; have k1_2 := k1.cell 2; have k1_f2 := k1.frozen 2; simp only [List.set_cons_zero, List.set_cons_succ, List.getElem?_cons_zero, List.getElem?_cons_succ] at k1_0 k1_1 k1_2; (try clear lt_k1); have lt_k1 := k1.lt
    replace hb1 : Below w.heap.size w x1 := hb1.step hx1
    clear hx1
    by_cases hm : dMay q t ld = 0
    · rw [hm]
      have hSV : SR = (dLoop q (dMu (dBegin l at_.toNat mid t ld) + 1) (dBegin l at_.toNat mid t ld)).sr := by
        rw [← hSR]; unfold dServe; rw [if_neg (by simpa using he), if_neg (by simpa using hm)]
      have hOK := dBegin_ok he hm
      have ha0 : ((at_.toNat : Nat) : Int) = at_ := by have := (dCheck_ok he).2.2.2.1; omega
      have HSV := hide hSV
      have HOK := hide hOK
      have HA0 := hide ha0
      have lx0 := k0.lt
      have lx1 := k1.lt
      have rA := ha.below hb1
      clear hSR he hne0 hm hSV hOK ha0 hC hM
      go_wp2_with (at_builtin; refine wpList_app3 rfl (.tmp 37) (.tmp 39) 22 rfl x1.heap.size 73 iT _ 3 24 Try.underlying22 hi hz0 hz1 hz2 rfl (by omega) none 0 0 [] rfl ⟨rfl, .inl ⟨rfl, rfl⟩⟩ A l.length c (flR l) w.heap.size rfl (by rw [flR_length]; omega) rA (flR_one l) (by unfold maxLen; omega) (by omega) (Nat.le_refl _) ?_; intro A7 cap7 w7 own7 hb7 hgr7; rw [Nat.zero_add, List.nil_append] at own7; (have k7 := k0.below hb7 lx0); (have m7 := k1.below hb7 lx1); have k7_0 := k7.cell 0; have k7_f0 := k7.frozen 0; have k7_1 := k7.cell 1; have k7_f1 := k7.frozen 1; have k7_2 := k7.cell 2; have k7_f2 := k7.frozen 2; simp only [List.set_cons_zero, List.set_cons_succ, List.getElem?_cons_zero, List.getElem?_cons_succ] at k7_0 k7_1 k7_2; have m7_0 := m7.cell 0; have m7_f0 := m7.frozen 0; have m7_1 := m7.cell 1; have m7_f1 := m7.frozen 1; have m7_2 := m7.cell 2; have m7_f2 := m7.frozen 2; simp only [List.set_cons_zero, List.set_cons_succ, List.getElem?_cons_zero, List.getElem?_cons_succ] at m7_0 m7_1 m7_2; (have lt7 := hb7.size); rw [Nat.zero_add])
      (try clear k0_0 k0_f0 k0_1 k0_f1 k0_2 k0_f2 lt_k0) ; (try clear k1_0 k1_f0 k1_1 k1_f1 k1_2 k1_f2 lt_k1) ; (try clear k7_0 k7_f0 k7_1 k7_f1 k7_2 k7_f2 lt_k7) ; (try clear m7_0 m7_f0 m7_1 m7_f1 m7_2 m7_f2 lt_m7)
      generalize hV : World.alloc (World.setCell w7 _ _) _ = w8
      have ltF : ∀ k, (Value.slice A7 l.length cap7).ownBlock = some k → x1.heap.size ≤ k ∧ k < w7.heap.size := own7.lt
      have hb7' : Below w.heap.size w w7 := hb1.trans (hb7.mono (by omega))
      have hb8 : Below w.heap.size w w8 := by subst hV; exact (hb7'.setCell (by dsimp only; omega) _).alloc (by simp [World.setCell]; omega) _
      have k08 : Bk w8 w.heap.size 24 (dsC A7 l.length cap7 at_ mid) := by subst hV; exact (k7.set_ 0 _).alloc _
      have k18 : Bk w8 (w.heap.size + 1) 24 (dsC none 0 0 0 false) := by subst hV; exact (m7.far (by dsimp only; omega) _).alloc _
      have own8 : w8.ownsRow x1.heap.size 73 3 (.slice A7 l.length cap7) l.length (flR l) := by subst hV; exact (own_far own7 (by dsimp only; omega) _).alloc _
      have kG8 : Bk w8 w7.heap.size 3 (ints (List.replicate l.length 0)) := by
        subst hV
        have := Bk.new' (World.setCell w7 ⟨w.heap.size, 0, none⟩ (.slice A7 l.length cap7)) 3 (ints (List.replicate l.length 0)) w7.heap.size (by simp [World.setCell])
        simpa [ints] using this
      have hGx : x1.heap.size ≤ w7.heap.size := lt7
      clear hV k7 m7 own7 hb7 hgr7 hb7' hmk hi hz0 hz1 hz2 iT rA hb1
      generalize w7.heap.size = G at *
      go_loopw [2] (fun lv wr => ∃ s, SvR w x1.heap.size G A7 cap7 l.length q ld SR s lv wr) (fun lv wr => muOf (fun s => SvR w x1.heap.size G A7 cap7 l.length q ld SR s lv wr) dMu)
      case atStart => exact ⟨dBegin l at_.toNat mid t ld, rfl, HSV.out, HOK.out, ⟨rfl, by simp [dBegin], by simp [dBegin]⟩, Wrel.begin _ _ _ _ _, by have := HA0.out; simpa [dBegin, this] using k08, k18, own8, kG8, hb8⟩
      case round =>
        obtain ⟨s, ⟨rfl, hsr, hok, ⟨hn1, hn2, hn3⟩, hwr, k0, k1, own, kG, hb⟩, hmu⟩ := muOf_at (m := dMu) hrel
        clear HSV HOK HA0
        (try clear k08); (try clear k18); (try clear own8); (try clear kG8); (try clear hb8)
        have rF := own_rd own
        have rG := kG.rd
        have hW := ref_waiting_any A7 C (some ⟨G, 0, none⟩) cap7 d l.length s.fl s.at_ s.mid ld s.went s.wt wr (by omega) hld HX.out (by omega) (by omega) (fun i a1 a2 a3 => ⟨(hwr i a1 a2 a3).1, (hwr i a1 a2 a3).2.1⟩) rF ((hd.below hb).more hb.size) rG
        rw [hn1, hn2] at hW
        have HSR := hide hsr
        have HOK := hide hok
        have HN := hide (show s.fl.length = l.length ∧ s.went.length = l.length ∧ s.wt.length = l.length from ⟨hn1, hn2, hn3⟩)
        have HWR := hide hwr
        have HMU := hide hmu
        clear hsr hok hn1 hn2 hn3 hwr hmu rF rG hrel
        have k0_0 := k0.cell 0; have k0_f0 := k0.frozen 0; have k0_1 := k0.cell 1; have k0_f1 := k0.frozen 1; have k0_2 := k0.cell 2; have k0_f2 := k0.frozen 2; simp only [List.set_cons_zero, List.set_cons_succ, List.getElem?_cons_zero, List.getElem?_cons_succ] at k0_0 k0_1 k0_2; have lt_k0 := k0.lt; have k1_0 := k1.cell 0; have k1_f0 := k1.frozen 0; have k1_1 := k1.cell 1; have k1_f1 := k1.frozen 1; have k1_2 := k1.cell 2; have k1_f2 := k1.frozen 2; simp only [List.set_cons_zero, List.set_cons_succ, List.getElem?_cons_zero, List.getElem?_cons_succ] at k1_0 k1_1 k1_2; have lt_k1 := k1.lt
        have lG := kG.lt
        by_cases ho : dOp s.wt = 0
        · rw [decide_eq_true ho] at hW
          have HSR2 : Hid (SR = s.sr) := by unfold Hid; rw [HSR.out, dLoop, if_pos ho]
          go_wp2_with fail
          refine hW.mono ?_; rintro e w2 ⟨rfl, hy⟩
          replace k0 := k0.step hy; (try clear k0_0 k0_f0 k0_1 k0_f1 k0_2 k0_f2); have k0_0 := k0.cell 0; have k0_f0 := k0.frozen 0; have k0_1 := k0.cell 1; have k0_f1 := k0.frozen 1; have k0_2 := k0.cell 2; have k0_f2 := k0.frozen 2; simp only [List.set_cons_zero, List.set_cons_succ, List.getElem?_cons_zero, List.getElem?_cons_succ] at k0_0 k0_1 k0_2; (try clear lt_k0); have lt_k0 := k0.lt; replace k1 := k1.step hy; (try clear k1_0 k1_f0 k1_1 k1_f1 k1_2 k1_f2); have k1_0 := k1.cell 0; have k1_f0 := k1.frozen 0; have k1_1 := k1.cell 1; have k1_f1 := k1.frozen 1; have k1_2 := k1.cell 2; have k1_f2 := k1.frozen 2; simp only [List.set_cons_zero, List.set_cons_succ, List.getElem?_cons_zero, List.getElem?_cons_succ] at k1_0 k1_1 k1_2; (try clear lt_k1); have lt_k1 := k1.lt
          replace kG := kG.step hy
          replace own := own_below own hy (Nat.le_refl _)
          replace hb : Below w.heap.size w w2 := hb.step hy
          clear hy hW HSR HOK HWR HMU
          go_wp2
          (try clear k0_0 k0_f0 k0_1 k0_f1 k0_2 k0_f2 lt_k0) ; (try clear k1_0 k1_f0 k1_1 k1_f1 k1_2 k1_f2 lt_k1)
          generalize hV : World.setCell (World.setCell (World.setCell w2 _ _) _ _) _ _ = w4
          have hb4 : Below w.heap.size w w4 := by subst hV; exact ((hb.setCell (by dsimp only; omega) _).setCell (by dsimp only; omega) _).setCell (by dsimp only; omega) _
          have k14 : Bk w4 (w.heap.size + 1) 24 (dsC A7 l.length cap7 s.at_ s.mid) := by subst hV; exact ((k1.set_ 0 _).set_ 1 _).set_ 2 _
          have own4 : w4.ownsRow x1.heap.size 73 3 (.slice A7 l.length cap7) l.length (flR s.fl) := by subst hV; refine own_far (own_far (own_far own ?_ _) ?_ _) ?_ _ <;> (dsimp only; omega)
          have kG4 : Bk w4 G 3 (ints s.went) := by subst hV; exact ((kG.far (by dsimp only; omega) _).far (by dsimp only; omega) _).far (by dsimp only; omega) _
          clear hV
          have k14_0 := k14.cell 0; have k14_f0 := k14.frozen 0; have k14_1 := k14.cell 1; have k14_f1 := k14.frozen 1; have k14_2 := k14.cell 2; have k14_f2 := k14.frozen 2; simp only [List.set_cons_zero, List.set_cons_succ, List.getElem?_cons_zero, List.getElem?_cons_succ] at k14_0 k14_1 k14_2; have lt_k14 := k14.lt
          obtain ⟨hn1, hn2, hn3⟩ := HN.out
          exact bodyPost_ret (v := .tuple #[dsV A7 l.length cap7 s.at_ s.mid, .slice (some ⟨G, 0, none⟩) l.length l.length, .int .i64 0]) (by simp only [results, Try.results12]; go_simp) rfl ⟨dsV A7 l.length cap7 s.at_ s.mid, some ⟨G, 0, none⟩, l.length, by rw [HSR2.out]; exact congrArg (fun n => Ending.returned (.tuple #[dsV A7 l.length cap7 s.at_ s.mid, .slice (some ⟨G, 0, none⟩) n l.length, .int .i64 0])) hn2.symm, by rw [HSR2.out]; exact ⟨A7, cap7, congrArg (fun n => dsV A7 n cap7 s.at_ s.mid) hn1.symm, own_rd own4⟩, by rw [HSR2.out]; exact kG4.rd, hb4⟩
        · rw [decide_eq_false ho] at hW
          go_wp2_with fail
          refine hW.mono ?_; rintro e w2 ⟨rfl, hy⟩
          replace k0 := k0.step hy; (try clear k0_0 k0_f0 k0_1 k0_f1 k0_2 k0_f2); have k0_0 := k0.cell 0; have k0_f0 := k0.frozen 0; have k0_1 := k0.cell 1; have k0_f1 := k0.frozen 1; have k0_2 := k0.cell 2; have k0_f2 := k0.frozen 2; simp only [List.set_cons_zero, List.set_cons_succ, List.getElem?_cons_zero, List.getElem?_cons_succ] at k0_0 k0_1 k0_2; (try clear lt_k0); have lt_k0 := k0.lt; replace k1 := k1.step hy; (try clear k1_0 k1_f0 k1_1 k1_f1 k1_2 k1_f2); have k1_0 := k1.cell 0; have k1_f0 := k1.frozen 0; have k1_1 := k1.cell 1; have k1_f1 := k1.frozen 1; have k1_2 := k1.cell 2; have k1_f2 := k1.frozen 2; simp only [List.set_cons_zero, List.set_cons_succ, List.getElem?_cons_zero, List.getElem?_cons_succ] at k1_0 k1_1 k1_2; (try clear lt_k1); have lt_k1 := k1.lt
          replace kG := kG.step hy
          replace own := own_below own hy (Nat.le_refl _)
          replace hb : Below w.heap.size w w2 := hb.step hy
          clear hy hW
          obtain ⟨hok, hsum⟩ := HOK.out.resolve_left ho
          obtain ⟨hn1, hn2, hn3⟩ := HN.out
          have h1 := hok.at_
          have h2 : s.at_ < s.wt.length := by omega
          have h3 : s.at_ < s.went.length := by omega
          have hNx := hok.next hsum
          have hWx := HWR.out.next hok hsum
          have hDr := dTurn_r hok h1 h2 h3
          have hmu2 := fun (he : (dTurn q s).2 = false) => dMu_next hok ho he
          have hlp := fun (he : (dTurn q s).2 = false) => congrArg RS.sr (dLoop_next hok hsum ho he)
          have hend : (dTurn q s).2 = true → SR = (dEnd q s).sr := fun he => by rw [HSR.out, dLoop, if_neg ho, if_pos he]
          have hf := hok.fl _ (List.getElem_mem h1)
          have hq := hok.q
          have hleft := hok.left
          have hzs := hok.size _ (List.getElem_mem h2)
          have hgs := hok.some _ (List.getElem_mem h3)
          obtain ⟨hg0, hgw, hgl⟩ := HWR.out s.at_ h1 h2 h3
          have hgsum := hsum s.at_ h2 h3
          have hadd := rAdd_in (mid := s.mid) hq hf
          obtain ⟨gf, cf, hA, hgf, hgf2⟩ := own_some own (by omega)
          cases hA
          obtain ⟨f0, f1, f2⟩ := flR_get s.fl s.at_ h1
          have c0 := (own.cellAt (s.at_ * 3) (by omega)).trans f0
          have c1 := (own.cellAt (s.at_ * 3 + 1) (by omega)).trans f1
          have c2 := (own.cellAt (s.at_ * 3 + 2) (by omega)).trans f2
          have cf0 := own.frozenAt (s.at_ * 3)
          have cf1 := own.frozenAt (s.at_ * 3 + 1)
          have cf2 := own.frozenAt (s.at_ * 3 + 2)
          have cG : w2.cell? ⟨G, s.at_, none⟩ = some (.int .i64 s.went[s.at_]) := by rw [kG.cell]; simp [ints, h3]
          have cGf := kG.frozen s.at_
          have hS := fun (W : World) (h : Below w.heap.size w W) => ref_sizes_any C d ld s.fl[s.at_].id W hld ((hd.below h).more h.size)
          have hRd : Rd w w.heap.size (dWait ld s.fl[s.at_].id).A (ints (dWait ld s.fl[s.at_].id).xs) ∧ (dWait ld s.fl[s.at_].id).xs.length ≤ (dWait ld s.fl[s.at_].id).c := by
            rcases dWait_mem ld s.fl[s.at_].id with e | e
            · rw [e]; exact ⟨Rd.nil, by simp⟩
            · exact ⟨hd.2.1 _ e, hd.2.2 _ e⟩
          clear f0 f1 f2
          obtain ⟨gn, hgn⟩ : ∃ gn : Nat, s.went[s.at_] = (gn : Int) := ⟨s.went[s.at_].toNat, by omega⟩
          have hy : s.wt[s.at_] = (dWait ld s.fl[s.at_].id).xs.drop gn := by rw [hgw, hgn]; rfl
          have hgnl : gn ≤ (dWait ld s.fl[s.at_].id).xs.length := by omega
          obtain ⟨A2, d2, hsl1, hsl2, hrd2⟩ := drop_run (dWait ld s.fl[s.at_].id).A (dWait ld s.fl[s.at_].id).xs (dWait ld s.fl[s.at_].id).c gn (gn : Int) rfl hgnl hRd.2 hRd.1
          have hylen : ((dWait ld s.fl[s.at_].id).xs.drop gn).length = (dWait ld s.fl[s.at_].id).xs.length - gn := List.length_drop
          have hTn := fun (W : World) (h : Below w.heap.size w W) => ref_turn_any s.fl[s.at_] (rAdd q s.mid s.fl[s.at_]) s.left A2 d2 s.wt[s.at_] W ⟨hf.1, hf.2.1⟩ (rAdd_pos hq hf) hleft hzs.1 hzs.2 (by rw [hy]; exact (hrd2.below h).more h.size)
          have hTl : s.wt[s.at_].length = (dWait ld s.fl[s.at_].id).xs.length - gn := by rw [hy, hylen]
          have hSf := flR_set3 s.fl s.at_ ⟨s.fl[s.at_].id, s.fl[s.at_].wt, (rTurn s.fl[s.at_].df (rAdd q s.mid s.fl[s.at_]) s.left s.wt[s.at_]).df⟩ h1
          have hRn := rTurn_n (df := s.fl[s.at_].df) (add := rAdd q s.mid s.fl[s.at_]) (left := s.left) (xs := s.wt[s.at_]) (by have := rAdd_pos (mid := s.mid) hq hf; omega) hleft.1 (fun n hn => (hzs.2 n hn).1)
          rw [hTl] at hTn
          have hRn2 : ((rTurn s.fl[s.at_].df (rAdd q s.mid s.fl[s.at_]) s.left s.wt[s.at_]).n : Int) ≤ 1000 := by have := hzs.1; omega
          rw [hgn] at cG hgs hDr
          have hadd2 : rAdd q s.mid s.fl[s.at_] = if s.mid = true then 0 else q * s.fl[s.at_].wt := rfl
          generalize hRR : rTurn s.fl[s.at_].df (rAdd q s.mid s.fl[s.at_]) s.left s.wt[s.at_] = R at *
          generalize rAdd q s.mid s.fl[s.at_] = add at *
          rw [hDr] at hend hlp hmu2
          have HDR := hide hDr
          have HNX := hide hNx
          have HWX := hide hWx
          have HMU2 := hide hmu2
          have HLP := hide hlp
          have HEND := hide hend
          have HSF := hide hSf
          have HSUM := hide hgsum
          clear hDr hNx hWx hmu2 hlp hend hSf hRd hrd2 hRR hgw hy hylen hTl hzs HX HOK HWR hgsum ho hok hsum hg0 hgl
          have hi1 : s.at_ < l.length := by omega
          generalize dWait ld s.fl[s.at_].id = x0 at *
          generalize s.fl[s.at_] = f at *
          generalize s.wt[s.at_] = y at *
          cases hmd : s.mid
          · have ha9 : q * f.wt = add := by rw [hadd2, hmd]; rfl
            have hw9 : IntKind.i64.wrap (q * f.wt) = add := by rw [IntWalk.i64_in (q * f.wt) (by omega)]; exact ha9
            clear hadd2 ha9
            rw [hmd] at k0
            (try clear k0_0 k0_f0 k0_1 k0_f1 k0_2 k0_f2 lt_k0) ; (try clear k1_0 k1_f0 k1_1 k1_f1 k1_2 k1_f2 lt_k1)
            have k0_0 := k0.cell 0; have k0_f0 := k0.frozen 0; have k0_1 := k0.cell 1; have k0_f1 := k0.frozen 1; have k0_2 := k0.cell 2; have k0_f2 := k0.frozen 2; simp only [List.set_cons_zero, List.set_cons_succ, List.getElem?_cons_zero, List.getElem?_cons_succ] at k0_0 k0_1 k0_2; have lt_k0 := k0.lt; have k1_0 := k1.cell 0; have k1_f0 := k1.frozen 0; have k1_1 := k1.cell 1; have k1_f1 := k1.frozen 1; have k1_2 := k1.cell 2; have k1_f2 := k1.frozen 2; simp only [List.set_cons_zero, List.set_cons_succ, List.getElem?_cons_zero, List.getElem?_cons_succ] at k1_0 k1_1 k1_2; have lt_k1 := k1.lt
            go_upto_region 14 with fail
            generalize hV : World.alloc w2 _ = w3
            have hy3 : Below w2.heap.size w2 w3 := by subst hV; (repeat (first | with_reducible exact Below.refl _ _ | with_reducible assumption | with_reducible refine Below.drew ?_ | with_reducible refine Below.drewN ?_ _ | with_reducible refine Below.alloc1 ?_ _ | with_reducible refine Below.setCell1 ?_ (by first | omega | (simp; done) | (simp; omega)) _ | with_reducible refine Below.step ?_ (by with_reducible assumption)))
            have kf : Bk w3 w2.heap.size 73 (flC f) := by subst hV; (repeat (first | with_reducible exact Bk.new' _ _ _ _ (by simp; done) | with_reducible assumption | with_reducible refine Bk.alloc ?_ _ | with_reducible refine Bk.drew ?_ | with_reducible refine Bk.drewN ?_ _ | with_reducible refine Bk.step ?_ (by with_reducible assumption) | with_reducible refine Bk.far ?_ (by first | omega | (simp; done) | (simp; omega)) _))
            clear hV
            replace k0 := k0.step hy3; (try clear k0_0 k0_f0 k0_1 k0_f1 k0_2 k0_f2); have k0_0 := k0.cell 0; have k0_f0 := k0.frozen 0; have k0_1 := k0.cell 1; have k0_f1 := k0.frozen 1; have k0_2 := k0.cell 2; have k0_f2 := k0.frozen 2; simp only [List.set_cons_zero, List.set_cons_succ, List.getElem?_cons_zero, List.getElem?_cons_succ] at k0_0 k0_1 k0_2; (try clear lt_k0); have lt_k0 := k0.lt; replace k1 := k1.step hy3; (try clear k1_0 k1_f0 k1_1 k1_f1 k1_2 k1_f2); have k1_0 := k1.cell 0; have k1_f0 := k1.frozen 0; have k1_1 := k1.cell 1; have k1_f1 := k1.frozen 1; have k1_2 := k1.cell 2; have k1_f2 := k1.frozen 2; simp only [List.set_cons_zero, List.set_cons_succ, List.getElem?_cons_zero, List.getElem?_cons_succ] at k1_0 k1_1 k1_2; (try clear lt_k1); have lt_k1 := k1.lt
            have lG2 : G < w2.heap.size := kG.lt
            replace kG := kG.step hy3
            have lG3 : G < w3.heap.size := kG.lt
            replace own := own_below own hy3 (Nat.le_refl _)
            replace hb : Below w.heap.size w w3 := hb.step hy3
            replace c0 := (hy3.cell (p := ⟨gf, s.at_ * 3, none⟩) hgf2).trans c0
            replace c1 := (hy3.cell (p := ⟨gf, s.at_ * 3 + 1, none⟩) hgf2).trans c1
            replace c2 := (hy3.cell (p := ⟨gf, s.at_ * 3 + 2, none⟩) hgf2).trans c2
            replace cG := (hy3.cell (p := ⟨G, s.at_, none⟩) lG2).trans cG
            have hs23 := hy3.size
            have lgf3 : gf < w3.heap.size := by omega
            clear hy3 cf0 cf1 cf2 cGf
            have kf_0 := kf.cell 0; have kf_f0 := kf.frozen 0; have kf_1 := kf.cell 1; have kf_f1 := kf.frozen 1; have kf_2 := kf.cell 2; have kf_f2 := kf.frozen 2; simp only [List.set_cons_zero, List.set_cons_succ, List.getElem?_cons_zero, List.getElem?_cons_succ] at kf_0 kf_1 kf_2; have lt_kf := kf.lt
            go_cut [15, 16, 17, 18] from 61 to 79 (fun v15 v16 v17 v18 wx => ∃ gx, v15 = .pointer (some ⟨gx, 0, none⟩) ∧ v16 = .int .i64 R.left ∧ v17 = .int .i64 R.n ∧ v18 = .bool R.ends ∧ w3.heap.size ≤ gx ∧ Bk wx gx 73 (flC ⟨f.id, f.wt, R.df⟩) ∧ Below w3.heap.size w3 wx)
            case first =>
              have HS : Hid (∀ w' : World, Below (w3.heap.size) w3 w' → (w'.cell? ⟨w2.heap.size, 0, none⟩ = some (.int .i64 f.id) ∧ w'.cell? ⟨w2.heap.size, 1, none⟩ = some (.int .i64 f.wt) ∧ w'.cell? ⟨w2.heap.size, 2, none⟩ = some (.int .i64 f.df) ∧ w'.cell? ⟨w.heap.size, 1, none⟩ = some (.int .i64 s.at_) ∧ w'.cell? ⟨G, s.at_, none⟩ = some (.int .i64 gn)) ∧ w3.heap.size ≤ w'.heap.size ∧ Below (w3.heap.size) w3 w') := fun w' hB => ⟨⟨(hB.cell (p := ⟨w2.heap.size, 0, none⟩) (by dsimp only; omega)).trans (kf_0), (hB.cell (p := ⟨w2.heap.size, 1, none⟩) (by dsimp only; omega)).trans (kf_1), (hB.cell (p := ⟨w2.heap.size, 2, none⟩) (by dsimp only; omega)).trans (kf_2), (hB.cell (p := ⟨w.heap.size, 1, none⟩) (by dsimp only; omega)).trans (k0_1), (hB.cell (p := ⟨G, s.at_, none⟩) (by dsimp only; omega)).trans (cG)⟩, hB.size, hB⟩; go_region_held3 (fun w' => (w'.cell? ⟨w2.heap.size, 0, none⟩ = some (.int .i64 f.id) ∧ w'.cell? ⟨w2.heap.size, 1, none⟩ = some (.int .i64 f.wt) ∧ w'.cell? ⟨w2.heap.size, 2, none⟩ = some (.int .i64 f.df) ∧ w'.cell? ⟨w.heap.size, 1, none⟩ = some (.int .i64 s.at_) ∧ w'.cell? ⟨G, s.at_, none⟩ = some (.int .i64 gn)) ∧ w3.heap.size ≤ w'.heap.size ∧ Below (w3.heap.size) w3 w') ((go_split_ands; exact HS.out _ (by (repeat (first | with_reducible exact Below.refl _ _ | with_reducible assumption | with_reducible refine Below.drew ?_ | with_reducible refine Below.drewN ?_ _ | with_reducible refine Below.alloc ?_ (by first | omega | (simp; done) | (simp; omega)) _ | with_reducible refine Below.setCell ?_ (by first | omega | (simp; done) | (simp; omega)) _ | with_reducible refine Below.then_ ?_ (by with_reducible assumption) (by first | omega | (simp; done) | (simp; omega))))))) ((first | (go_at_call 35; refine (hS _ (by (repeat (first | with_reducible exact Below.refl _ _ | with_reducible assumption | with_reducible refine Below.drew ?_ | with_reducible refine Below.drewN ?_ _ | with_reducible refine Below.alloc1 ?_ _ | with_reducible refine Below.setCell1 ?_ (by first | omega | (simp; done) | (simp; omega)) _ | with_reducible refine Below.step ?_ (by with_reducible assumption))))).mono ?_; rintro e w5 ⟨rfl, hy5⟩; obtain ⟨hc_hy5, hf_hy5⟩ := bcell hy5; have hz_hy5 := hy5.size; (try simp at hz_hy5); (try have lt_w5_w3_0 : w3.heap.size < w5.heap.size := by omega); (try have lt_w5_w3_1 : w3.heap.size + 1 < w5.heap.size := by omega); (try have lt_w5_w3_2 : w3.heap.size + 1 + 1 < w5.heap.size := by omega)) | (go_at_call 34; refine (hTn _ (by (repeat (first | with_reducible exact Below.refl _ _ | with_reducible assumption | with_reducible refine Below.drew ?_ | with_reducible refine Below.drewN ?_ _ | with_reducible refine Below.alloc1 ?_ _ | with_reducible refine Below.setCell1 ?_ (by first | omega | (simp; done) | (simp; omega)) _ | with_reducible refine Below.step ?_ (by with_reducible assumption))))).mono ?_; rintro e w6 ⟨rfl, hy6⟩; obtain ⟨hc_hy6, hf_hy6⟩ := bcell hy6; have hz_hy6 := hy6.size; (try simp at hz_hy6); (try have lt_w6_w3_0 : w3.heap.size < w6.heap.size := by omega); (try have lt_w6_w3_1 : w3.heap.size + 1 < w6.heap.size := by omega); (try have lt_w6_w3_2 : w3.heap.size + 1 + 1 < w6.heap.size := by omega))))
              all_goals
                go_wp2_with fail
                go_meet
                have hs56 := hy5.size
                have hs66 := hy6.size
                (try simp at hs56); (try simp at hs66)
                first
                  | exact ⟨_, rfl, rfl, rfl, rfl, by omega, Bk.new' w6 73 (flC ⟨f.id, f.wt, R.df⟩) _ rfl, by (repeat (first | with_reducible exact Below.refl _ _ | with_reducible assumption | with_reducible refine Below.drew ?_ | with_reducible refine Below.drewN ?_ _ | with_reducible refine Below.alloc1 ?_ _ | with_reducible refine Below.setCell1 ?_ (by first | omega | (simp; done) | (simp; omega)) _ | with_reducible refine Below.step ?_ (by with_reducible assumption)))⟩
                  | exact ⟨_, rfl, rfl, rfl, rfl, by omega, ((((Bk.new _ 73 (flC ⟨0, 0, 0⟩)).step hy6).set_ 0 _).set_ 1 _).set_ 2 _, by refine Below.setCell1 (Below.setCell1 (Below.setCell1 ?_ (by dsimp only; omega) _) (by dsimp only; omega) _) (by dsimp only; omega) _; (repeat (first | with_reducible exact Below.refl _ _ | with_reducible assumption | with_reducible refine Below.drew ?_ | with_reducible refine Below.drewN ?_ _ | with_reducible refine Below.alloc1 ?_ _ | with_reducible refine Below.setCell1 ?_ (by first | omega | (simp; done) | (simp; omega)) _ | with_reducible refine Below.step ?_ (by with_reducible assumption)))⟩
                  | exact ⟨_, rfl, rfl, rfl, rfl, by omega, ((((Bk.drew (Bk.new _ 73 (flC ⟨0, 0, 0⟩))).step hy5).step hy6 |>.set_ 0 _).set_ 1 _).set_ 2 _, by refine Below.setCell1 (Below.setCell1 (Below.setCell1 ?_ (by dsimp only; omega) _) (by dsimp only; omega) _) (by dsimp only; omega) _; (repeat (first | with_reducible exact Below.refl _ _ | with_reducible assumption | with_reducible refine Below.drew ?_ | with_reducible refine Below.drewN ?_ _ | with_reducible refine Below.alloc1 ?_ _ | with_reducible refine Below.setCell1 ?_ (by first | omega | (simp; done) | (simp; omega)) _ | with_reducible refine Below.step ?_ (by with_reducible assumption)))⟩
            case rest =>
              obtain ⟨gx, rfl, rfl, rfl, rfl, hgx, kx, hyc⟩ := hcut
              replace k0 := k0.step hyc; (try clear k0_0 k0_f0 k0_1 k0_f1 k0_2 k0_f2); have k0_0 := k0.cell 0; have k0_f0 := k0.frozen 0; have k0_1 := k0.cell 1; have k0_f1 := k0.frozen 1; have k0_2 := k0.cell 2; have k0_f2 := k0.frozen 2; simp only [List.set_cons_zero, List.set_cons_succ, List.getElem?_cons_zero, List.getElem?_cons_succ] at k0_0 k0_1 k0_2; (try clear lt_k0); have lt_k0 := k0.lt; replace k1 := k1.step hyc; (try clear k1_0 k1_f0 k1_1 k1_f1 k1_2 k1_f2); have k1_0 := k1.cell 0; have k1_f0 := k1.frozen 0; have k1_1 := k1.cell 1; have k1_f1 := k1.frozen 1; have k1_2 := k1.cell 2; have k1_f2 := k1.frozen 2; simp only [List.set_cons_zero, List.set_cons_succ, List.getElem?_cons_zero, List.getElem?_cons_succ] at k1_0 k1_1 k1_2; (try clear lt_k1); have lt_k1 := k1.lt
              replace kG := kG.step hyc
              replace own := own_below own hyc (Nat.le_refl _)
              replace hb : Below w.heap.size w wc := hb.step hyc
              replace c0 := (hyc.cell (p := ⟨gf, s.at_ * 3, none⟩) lgf3).trans c0
              replace c1 := (hyc.cell (p := ⟨gf, s.at_ * 3 + 1, none⟩) lgf3).trans c1
              replace c2 := (hyc.cell (p := ⟨gf, s.at_ * 3 + 2, none⟩) lgf3).trans c2
              replace cG := (hyc.cell (p := ⟨G, s.at_, none⟩) lG3).trans cG
              have cf0 := own.frozenAt (s.at_ * 3)
              have cf1 := own.frozenAt (s.at_ * 3 + 1)
              have cf2 := own.frozenAt (s.at_ * 3 + 2)
              have cGf := kG.frozen s.at_
              have lGc := kG.lt
              have lfc := (own.lt gf rfl).2
              have lfG := (ltF gf rfl).2
              clear hyc hTn hS hsl1 hsl2 kf kf_0 kf_f0 kf_1 kf_f1 kf_2 kf_f2 lt_kf
              have kx_0 := kx.cell 0; have kx_f0 := kx.frozen 0; have kx_1 := kx.cell 1; have kx_f1 := kx.frozen 1; have kx_2 := kx.cell 2; have kx_f2 := kx.frozen 2; simp only [List.set_cons_zero, List.set_cons_succ, List.getElem?_cons_zero, List.getElem?_cons_succ] at kx_0 kx_1 kx_2; have lt_kx := kx.lt
              cases hre : R.ends with
              | true =>
                have hSRT : SR = ⟨s.fl.set s.at_ ⟨f.id, f.wt, R.df⟩, s.at_, true, s.went.set s.at_ ((gn : Int) + (R.n : Nat)), 0⟩ := by
                  rw [HEND.out (by first | exact hre | trivial)]; unfold dEnd; rw [HDR.out]; rfl
                replace hSRT := hide hSRT
                go_wp2_with fail
                (try clear k0_0 k0_f0 k0_1 k0_f1 k0_2 k0_f2 lt_k0) ; (try clear k1_0 k1_f0 k1_1 k1_f1 k1_2 k1_f2 lt_k1)
                generalize hV : World.setCell (World.setCell (World.setCell _ _ _) _ _) _ _ = w9
                have hb9 : Below w.heap.size w w9 := by subst hV; (repeat first | with_reducible exact hb | refine Below.setCell ?_ (by dsimp only; omega) _)
                have k19 : Bk w9 (w.heap.size + 1) 24 (dsC (some ⟨gf, 0, none⟩) l.length cap7 s.at_ true) := by subst hV; refine Bk.set_ (Bk.set_ (Bk.set_ (cs := dsC none 0 0 0 false) ?_ 0 _) 1 _) 2 _; (repeat first | with_reducible exact k1 | refine Bk.far ?_ (by dsimp only; omega) _)
                have kG9 : Bk w9 G 3 (ints (s.went.set s.at_ ((gn : Int) + (R.n : Nat)))) := by
                  subst hV
                  have e9 : ints (s.went.set s.at_ ((gn : Int) + (R.n : Nat))) = (ints s.went).set s.at_ (.int .i64 ((gn : Int) + (R.n : Nat))) := by unfold ints; rw [List.map_set]
                  rw [e9]
                  refine Bk.far (Bk.far (Bk.far (Bk.far (Bk.set_ (Bk.far (Bk.far (Bk.far kG (by dsimp only; omega) _) (by dsimp only; omega) _) (by dsimp only; omega) _) _ _) (by dsimp only; omega) _) (by dsimp only; omega) _) (by dsimp only; omega) _) (by dsimp only; omega) _
                have own9 : w9.ownsRow x1.heap.size 73 3 (.slice (some ⟨gf, 0, none⟩) l.length cap7) l.length (flR (s.fl.set s.at_ ⟨f.id, f.wt, R.df⟩)) := by
                  subst hV
                  rw [← HSF.out]
                  refine own_far (own_far (own_far (own_far (own_beside ?_ (by omega) _ _) (by dsimp only; omega) _) (by dsimp only; omega) _) (by dsimp only; omega) _) (by dsimp only; omega) _
                  exact (World.ownsRow.stored (World.ownsRow.stored (World.ownsRow.stored own _ _).1 _ _).1 _ _).1
                clear hV
                have k19_0 := k19.cell 0; have k19_f0 := k19.frozen 0; have k19_1 := k19.cell 1; have k19_f1 := k19.frozen 1; have k19_2 := k19.cell 2; have k19_f2 := k19.frozen 2; simp only [List.set_cons_zero, List.set_cons_succ, List.getElem?_cons_zero, List.getElem?_cons_succ] at k19_0 k19_1 k19_2; have lt_k19 := k19.lt
                exact bodyPost_ret (v := .tuple #[dsV (some ⟨gf, 0, none⟩) l.length cap7 s.at_ true, .slice (some ⟨G, 0, none⟩) l.length l.length, .int .i64 0]) (by simp only [results, Try.results12]; go_simp) rfl ⟨dsV (some ⟨gf, 0, none⟩) l.length cap7 s.at_ true, some ⟨G, 0, none⟩, l.length, by rw [hSRT.out]; exact congrArg (fun n => Ending.returned (.tuple #[dsV (some ⟨gf, 0, none⟩) l.length cap7 s.at_ true, .slice (some ⟨G, 0, none⟩) n l.length, .int .i64 0])) (by rw [List.length_set]; exact hn2.symm), by rw [hSRT.out]; exact ⟨some ⟨gf, 0, none⟩, cap7, congrArg (fun n => dsV (some ⟨gf, 0, none⟩) n cap7 s.at_ true) (by rw [List.length_set]; exact hn1.symm), own_rd own9⟩, by rw [hSRT.out]; exact kG9.rd, hb9⟩
              | false =>
                go_wp2_with fail
                (try clear k0_0 k0_f0 k0_1 k0_f1 k0_2 k0_f2 lt_k0) ; (try clear k1_0 k1_f0 k1_1 k1_f1 k1_2 k1_f2 lt_k1)
                have hNN : dNext q s = { rNext s f y (gn : Int) R with at_ := (s.at_ + 1) % s.fl.length, mid := false } := by unfold dNext; rw [HDR.out]
                generalize hV : World.setCell (World.setCell _ _ _) _ _ = w9
                have hb9 : Below w.heap.size w w9 := by subst hV; (repeat first | with_reducible exact hb | refine Below.setCell ?_ (by dsimp only; omega) _)
                have k19 : Bk w9 (w.heap.size + 1) 24 (dsC none 0 0 0 false) := by subst hV; (repeat first | with_reducible exact k1 | refine Bk.far ?_ (by dsimp only; omega) _)
                have hcast : ((s.at_ : Int) + 1) % (l.length : Int) = (((s.at_ + 1) % s.fl.length : Nat) : Int) := by rw [hn1]; push_cast; rfl
                have k09 : Bk w9 w.heap.size 24 (dsC (some ⟨gf, 0, none⟩) l.length cap7 (((s.at_ + 1) % s.fl.length : Nat) : Int) false) := by
                  subst hV
                  rw [← hcast]
                  refine Bk.set_ (Bk.set_ (cs := dsC (some ⟨gf, 0, none⟩) l.length cap7 s.at_ false) ?_ 1 _) 2 _
                  (repeat first | with_reducible exact k0 | refine Bk.far ?_ (by dsimp only; omega) _)
                have kG9 : Bk w9 G 3 (ints (s.went.set s.at_ ((gn : Int) + (R.n : Nat)))) := by
                  subst hV
                  have e9 : ints (s.went.set s.at_ ((gn : Int) + (R.n : Nat))) = (ints s.went).set s.at_ (.int .i64 ((gn : Int) + (R.n : Nat))) := by unfold ints; rw [List.map_set]
                  rw [e9]
                  refine Bk.far (Bk.far (Bk.set_ (Bk.far (Bk.far (Bk.far kG (by dsimp only; omega) _) (by dsimp only; omega) _) (by dsimp only; omega) _) _ _) (by dsimp only; omega) _) (by dsimp only; omega) _
                have own9 : w9.ownsRow x1.heap.size 73 3 (.slice (some ⟨gf, 0, none⟩) l.length cap7) l.length (flR (s.fl.set s.at_ ⟨f.id, f.wt, R.df⟩)) := by
                  subst hV
                  rw [← HSF.out]
                  refine own_far (own_far (own_beside ?_ (by omega) _ _) (by dsimp only; omega) _) (by dsimp only; omega) _
                  exact (World.ownsRow.stored (World.ownsRow.stored (World.ownsRow.stored own _ _).1 _ _).1 _ _).1
                clear hV
                have hnew : SvR w x1.heap.size G (some ⟨gf, 0, none⟩) cap7 l.length q ld SR (dNext q s) (.int .i64 R.left) w9 := by
                  refine ⟨by rw [hNN]; rfl, HSR.out.trans (HLP.out (by first | exact hre | trivial)), .inr HNX.out, ?_, HWX.out, ?_, k19, ?_, ?_, hb9⟩
                  · rw [hNN]; unfold rNext; dsimp only; rw [List.length_set, List.length_set, List.length_set]; exact ⟨hn1, hn2, hn3⟩
                  · rw [hNN]; exact k09
                  · rw [hNN]; exact own9
                  · rw [hNN]; exact kG9
                exact ⟨⟨_, hnew⟩, Nat.lt_of_le_of_lt (muOf_le (m := dMu) hnew) (by rw [← HMU.out]; exact HMU2.out (by first | exact hre | trivial))⟩
          · have ha9 : add = 0 := by rw [hadd2, hmd]; rfl
            clear hadd2
            subst ha9
            rw [hmd] at k0
            (try clear k0_0 k0_f0 k0_1 k0_f1 k0_2 k0_f2 lt_k0) ; (try clear k1_0 k1_f0 k1_1 k1_f1 k1_2 k1_f2 lt_k1)
            have k0_0 := k0.cell 0; have k0_f0 := k0.frozen 0; have k0_1 := k0.cell 1; have k0_f1 := k0.frozen 1; have k0_2 := k0.cell 2; have k0_f2 := k0.frozen 2; simp only [List.set_cons_zero, List.set_cons_succ, List.getElem?_cons_zero, List.getElem?_cons_succ] at k0_0 k0_1 k0_2; have lt_k0 := k0.lt; have k1_0 := k1.cell 0; have k1_f0 := k1.frozen 0; have k1_1 := k1.cell 1; have k1_f1 := k1.frozen 1; have k1_2 := k1.cell 2; have k1_f2 := k1.frozen 2; simp only [List.set_cons_zero, List.set_cons_succ, List.getElem?_cons_zero, List.getElem?_cons_succ] at k1_0 k1_1 k1_2; have lt_k1 := k1.lt
            go_upto_region 14 with fail
            generalize hV : World.alloc w2 _ = w3
            have hy3 : Below w2.heap.size w2 w3 := by subst hV; (repeat (first | with_reducible exact Below.refl _ _ | with_reducible assumption | with_reducible refine Below.drew ?_ | with_reducible refine Below.drewN ?_ _ | with_reducible refine Below.alloc1 ?_ _ | with_reducible refine Below.setCell1 ?_ (by first | omega | (simp; done) | (simp; omega)) _ | with_reducible refine Below.step ?_ (by with_reducible assumption)))
            have kf : Bk w3 w2.heap.size 73 (flC f) := by subst hV; (repeat (first | with_reducible exact Bk.new' _ _ _ _ (by simp; done) | with_reducible assumption | with_reducible refine Bk.alloc ?_ _ | with_reducible refine Bk.drew ?_ | with_reducible refine Bk.drewN ?_ _ | with_reducible refine Bk.step ?_ (by with_reducible assumption) | with_reducible refine Bk.far ?_ (by first | omega | (simp; done) | (simp; omega)) _))
            clear hV
            replace k0 := k0.step hy3; (try clear k0_0 k0_f0 k0_1 k0_f1 k0_2 k0_f2); have k0_0 := k0.cell 0; have k0_f0 := k0.frozen 0; have k0_1 := k0.cell 1; have k0_f1 := k0.frozen 1; have k0_2 := k0.cell 2; have k0_f2 := k0.frozen 2; simp only [List.set_cons_zero, List.set_cons_succ, List.getElem?_cons_zero, List.getElem?_cons_succ] at k0_0 k0_1 k0_2; (try clear lt_k0); have lt_k0 := k0.lt; replace k1 := k1.step hy3; (try clear k1_0 k1_f0 k1_1 k1_f1 k1_2 k1_f2); have k1_0 := k1.cell 0; have k1_f0 := k1.frozen 0; have k1_1 := k1.cell 1; have k1_f1 := k1.frozen 1; have k1_2 := k1.cell 2; have k1_f2 := k1.frozen 2; simp only [List.set_cons_zero, List.set_cons_succ, List.getElem?_cons_zero, List.getElem?_cons_succ] at k1_0 k1_1 k1_2; (try clear lt_k1); have lt_k1 := k1.lt
            have lG2 : G < w2.heap.size := kG.lt
            replace kG := kG.step hy3
            have lG3 : G < w3.heap.size := kG.lt
            replace own := own_below own hy3 (Nat.le_refl _)
            replace hb : Below w.heap.size w w3 := hb.step hy3
            replace c0 := (hy3.cell (p := ⟨gf, s.at_ * 3, none⟩) hgf2).trans c0
            replace c1 := (hy3.cell (p := ⟨gf, s.at_ * 3 + 1, none⟩) hgf2).trans c1
            replace c2 := (hy3.cell (p := ⟨gf, s.at_ * 3 + 2, none⟩) hgf2).trans c2
            replace cG := (hy3.cell (p := ⟨G, s.at_, none⟩) lG2).trans cG
            have hs23 := hy3.size
            have lgf3 : gf < w3.heap.size := by omega
            clear hy3 cf0 cf1 cf2 cGf
            have kf_0 := kf.cell 0; have kf_f0 := kf.frozen 0; have kf_1 := kf.cell 1; have kf_f1 := kf.frozen 1; have kf_2 := kf.cell 2; have kf_f2 := kf.frozen 2; simp only [List.set_cons_zero, List.set_cons_succ, List.getElem?_cons_zero, List.getElem?_cons_succ] at kf_0 kf_1 kf_2; have lt_kf := kf.lt
            go_cut [15, 16, 17, 18] from 61 to 79 (fun v15 v16 v17 v18 wx => ∃ gx, v15 = .pointer (some ⟨gx, 0, none⟩) ∧ v16 = .int .i64 R.left ∧ v17 = .int .i64 R.n ∧ v18 = .bool R.ends ∧ w3.heap.size ≤ gx ∧ Bk wx gx 73 (flC ⟨f.id, f.wt, R.df⟩) ∧ Below w3.heap.size w3 wx)
            case first =>
              have HS : Hid (∀ w' : World, Below (w3.heap.size) w3 w' → (w'.cell? ⟨w2.heap.size, 0, none⟩ = some (.int .i64 f.id) ∧ w'.cell? ⟨w2.heap.size, 1, none⟩ = some (.int .i64 f.wt) ∧ w'.cell? ⟨w2.heap.size, 2, none⟩ = some (.int .i64 f.df) ∧ w'.cell? ⟨w.heap.size, 1, none⟩ = some (.int .i64 s.at_) ∧ w'.cell? ⟨G, s.at_, none⟩ = some (.int .i64 gn)) ∧ w3.heap.size ≤ w'.heap.size ∧ Below (w3.heap.size) w3 w') := fun w' hB => ⟨⟨(hB.cell (p := ⟨w2.heap.size, 0, none⟩) (by dsimp only; omega)).trans (kf_0), (hB.cell (p := ⟨w2.heap.size, 1, none⟩) (by dsimp only; omega)).trans (kf_1), (hB.cell (p := ⟨w2.heap.size, 2, none⟩) (by dsimp only; omega)).trans (kf_2), (hB.cell (p := ⟨w.heap.size, 1, none⟩) (by dsimp only; omega)).trans (k0_1), (hB.cell (p := ⟨G, s.at_, none⟩) (by dsimp only; omega)).trans (cG)⟩, hB.size, hB⟩; go_region_held3 (fun w' => (w'.cell? ⟨w2.heap.size, 0, none⟩ = some (.int .i64 f.id) ∧ w'.cell? ⟨w2.heap.size, 1, none⟩ = some (.int .i64 f.wt) ∧ w'.cell? ⟨w2.heap.size, 2, none⟩ = some (.int .i64 f.df) ∧ w'.cell? ⟨w.heap.size, 1, none⟩ = some (.int .i64 s.at_) ∧ w'.cell? ⟨G, s.at_, none⟩ = some (.int .i64 gn)) ∧ w3.heap.size ≤ w'.heap.size ∧ Below (w3.heap.size) w3 w') ((go_split_ands; exact HS.out _ (by (repeat (first | with_reducible exact Below.refl _ _ | with_reducible assumption | with_reducible refine Below.drew ?_ | with_reducible refine Below.drewN ?_ _ | with_reducible refine Below.alloc ?_ (by first | omega | (simp; done) | (simp; omega)) _ | with_reducible refine Below.setCell ?_ (by first | omega | (simp; done) | (simp; omega)) _ | with_reducible refine Below.then_ ?_ (by with_reducible assumption) (by first | omega | (simp; done) | (simp; omega))))))) ((first | (go_at_call 35; refine (hS _ (by (repeat (first | with_reducible exact Below.refl _ _ | with_reducible assumption | with_reducible refine Below.drew ?_ | with_reducible refine Below.drewN ?_ _ | with_reducible refine Below.alloc1 ?_ _ | with_reducible refine Below.setCell1 ?_ (by first | omega | (simp; done) | (simp; omega)) _ | with_reducible refine Below.step ?_ (by with_reducible assumption))))).mono ?_; rintro e w5 ⟨rfl, hy5⟩; obtain ⟨hc_hy5, hf_hy5⟩ := bcell hy5; have hz_hy5 := hy5.size; (try simp at hz_hy5); (try have lt_w5_w3_0 : w3.heap.size < w5.heap.size := by omega); (try have lt_w5_w3_1 : w3.heap.size + 1 < w5.heap.size := by omega); (try have lt_w5_w3_2 : w3.heap.size + 1 + 1 < w5.heap.size := by omega)) | (go_at_call 34; refine (hTn _ (by (repeat (first | with_reducible exact Below.refl _ _ | with_reducible assumption | with_reducible refine Below.drew ?_ | with_reducible refine Below.drewN ?_ _ | with_reducible refine Below.alloc1 ?_ _ | with_reducible refine Below.setCell1 ?_ (by first | omega | (simp; done) | (simp; omega)) _ | with_reducible refine Below.step ?_ (by with_reducible assumption))))).mono ?_; rintro e w6 ⟨rfl, hy6⟩; obtain ⟨hc_hy6, hf_hy6⟩ := bcell hy6; have hz_hy6 := hy6.size; (try simp at hz_hy6); (try have lt_w6_w3_0 : w3.heap.size < w6.heap.size := by omega); (try have lt_w6_w3_1 : w3.heap.size + 1 < w6.heap.size := by omega); (try have lt_w6_w3_2 : w3.heap.size + 1 + 1 < w6.heap.size := by omega))))
              all_goals
                go_wp2_with fail
                go_meet
                have hs56 := hy5.size
                have hs66 := hy6.size
                (try simp at hs56); (try simp at hs66)
                first
                  | exact ⟨_, rfl, rfl, rfl, rfl, by omega, Bk.new' w6 73 (flC ⟨f.id, f.wt, R.df⟩) _ rfl, by (repeat (first | with_reducible exact Below.refl _ _ | with_reducible assumption | with_reducible refine Below.drew ?_ | with_reducible refine Below.drewN ?_ _ | with_reducible refine Below.alloc1 ?_ _ | with_reducible refine Below.setCell1 ?_ (by first | omega | (simp; done) | (simp; omega)) _ | with_reducible refine Below.step ?_ (by with_reducible assumption)))⟩
                  | exact ⟨_, rfl, rfl, rfl, rfl, by omega, ((((Bk.new _ 73 (flC ⟨0, 0, 0⟩)).step hy6).set_ 0 _).set_ 1 _).set_ 2 _, by refine Below.setCell1 (Below.setCell1 (Below.setCell1 ?_ (by dsimp only; omega) _) (by dsimp only; omega) _) (by dsimp only; omega) _; (repeat (first | with_reducible exact Below.refl _ _ | with_reducible assumption | with_reducible refine Below.drew ?_ | with_reducible refine Below.drewN ?_ _ | with_reducible refine Below.alloc1 ?_ _ | with_reducible refine Below.setCell1 ?_ (by first | omega | (simp; done) | (simp; omega)) _ | with_reducible refine Below.step ?_ (by with_reducible assumption)))⟩
                  | exact ⟨_, rfl, rfl, rfl, rfl, by omega, ((((Bk.drew (Bk.new _ 73 (flC ⟨0, 0, 0⟩))).step hy5).step hy6 |>.set_ 0 _).set_ 1 _).set_ 2 _, by refine Below.setCell1 (Below.setCell1 (Below.setCell1 ?_ (by dsimp only; omega) _) (by dsimp only; omega) _) (by dsimp only; omega) _; (repeat (first | with_reducible exact Below.refl _ _ | with_reducible assumption | with_reducible refine Below.drew ?_ | with_reducible refine Below.drewN ?_ _ | with_reducible refine Below.alloc1 ?_ _ | with_reducible refine Below.setCell1 ?_ (by first | omega | (simp; done) | (simp; omega)) _ | with_reducible refine Below.step ?_ (by with_reducible assumption)))⟩
            case rest =>
              obtain ⟨gx, rfl, rfl, rfl, rfl, hgx, kx, hyc⟩ := hcut
              replace k0 := k0.step hyc; (try clear k0_0 k0_f0 k0_1 k0_f1 k0_2 k0_f2); have k0_0 := k0.cell 0; have k0_f0 := k0.frozen 0; have k0_1 := k0.cell 1; have k0_f1 := k0.frozen 1; have k0_2 := k0.cell 2; have k0_f2 := k0.frozen 2; simp only [List.set_cons_zero, List.set_cons_succ, List.getElem?_cons_zero, List.getElem?_cons_succ] at k0_0 k0_1 k0_2; (try clear lt_k0); have lt_k0 := k0.lt; replace k1 := k1.step hyc; (try clear k1_0 k1_f0 k1_1 k1_f1 k1_2 k1_f2); have k1_0 := k1.cell 0; have k1_f0 := k1.frozen 0; have k1_1 := k1.cell 1; have k1_f1 := k1.frozen 1; have k1_2 := k1.cell 2; have k1_f2 := k1.frozen 2; simp only [List.set_cons_zero, List.set_cons_succ, List.getElem?_cons_zero, List.getElem?_cons_succ] at k1_0 k1_1 k1_2; (try clear lt_k1); have lt_k1 := k1.lt
              replace kG := kG.step hyc
              replace own := own_below own hyc (Nat.le_refl _)
              replace hb : Below w.heap.size w wc := hb.step hyc
              replace c0 := (hyc.cell (p := ⟨gf, s.at_ * 3, none⟩) lgf3).trans c0
              replace c1 := (hyc.cell (p := ⟨gf, s.at_ * 3 + 1, none⟩) lgf3).trans c1
              replace c2 := (hyc.cell (p := ⟨gf, s.at_ * 3 + 2, none⟩) lgf3).trans c2
              replace cG := (hyc.cell (p := ⟨G, s.at_, none⟩) lG3).trans cG
              have cf0 := own.frozenAt (s.at_ * 3)
              have cf1 := own.frozenAt (s.at_ * 3 + 1)
              have cf2 := own.frozenAt (s.at_ * 3 + 2)
              have cGf := kG.frozen s.at_
              have lGc := kG.lt
              have lfc := (own.lt gf rfl).2
              have lfG := (ltF gf rfl).2
              clear hyc hTn hS hsl1 hsl2 kf kf_0 kf_f0 kf_1 kf_f1 kf_2 kf_f2 lt_kf
              have kx_0 := kx.cell 0; have kx_f0 := kx.frozen 0; have kx_1 := kx.cell 1; have kx_f1 := kx.frozen 1; have kx_2 := kx.cell 2; have kx_f2 := kx.frozen 2; simp only [List.set_cons_zero, List.set_cons_succ, List.getElem?_cons_zero, List.getElem?_cons_succ] at kx_0 kx_1 kx_2; have lt_kx := kx.lt
              cases hre : R.ends with
              | true =>
                have hSRT : SR = ⟨s.fl.set s.at_ ⟨f.id, f.wt, R.df⟩, s.at_, true, s.went.set s.at_ ((gn : Int) + (R.n : Nat)), 0⟩ := by
                  rw [HEND.out (by first | exact hre | trivial)]; unfold dEnd; rw [HDR.out]; rfl
                replace hSRT := hide hSRT
                go_wp2_with fail
                (try clear k0_0 k0_f0 k0_1 k0_f1 k0_2 k0_f2 lt_k0) ; (try clear k1_0 k1_f0 k1_1 k1_f1 k1_2 k1_f2 lt_k1)
                generalize hV : World.setCell (World.setCell (World.setCell _ _ _) _ _) _ _ = w9
                have hb9 : Below w.heap.size w w9 := by subst hV; (repeat first | with_reducible exact hb | refine Below.setCell ?_ (by dsimp only; omega) _)
                have k19 : Bk w9 (w.heap.size + 1) 24 (dsC (some ⟨gf, 0, none⟩) l.length cap7 s.at_ true) := by subst hV; refine Bk.set_ (Bk.set_ (Bk.set_ (cs := dsC none 0 0 0 false) ?_ 0 _) 1 _) 2 _; (repeat first | with_reducible exact k1 | refine Bk.far ?_ (by dsimp only; omega) _)
                have kG9 : Bk w9 G 3 (ints (s.went.set s.at_ ((gn : Int) + (R.n : Nat)))) := by
                  subst hV
                  have e9 : ints (s.went.set s.at_ ((gn : Int) + (R.n : Nat))) = (ints s.went).set s.at_ (.int .i64 ((gn : Int) + (R.n : Nat))) := by unfold ints; rw [List.map_set]
                  rw [e9]
                  refine Bk.far (Bk.far (Bk.far (Bk.far (Bk.set_ (Bk.far (Bk.far (Bk.far kG (by dsimp only; omega) _) (by dsimp only; omega) _) (by dsimp only; omega) _) _ _) (by dsimp only; omega) _) (by dsimp only; omega) _) (by dsimp only; omega) _) (by dsimp only; omega) _
                have own9 : w9.ownsRow x1.heap.size 73 3 (.slice (some ⟨gf, 0, none⟩) l.length cap7) l.length (flR (s.fl.set s.at_ ⟨f.id, f.wt, R.df⟩)) := by
                  subst hV
                  rw [← HSF.out]
                  refine own_far (own_far (own_far (own_far (own_beside ?_ (by omega) _ _) (by dsimp only; omega) _) (by dsimp only; omega) _) (by dsimp only; omega) _) (by dsimp only; omega) _
                  exact (World.ownsRow.stored (World.ownsRow.stored (World.ownsRow.stored own _ _).1 _ _).1 _ _).1
                clear hV
                have k19_0 := k19.cell 0; have k19_f0 := k19.frozen 0; have k19_1 := k19.cell 1; have k19_f1 := k19.frozen 1; have k19_2 := k19.cell 2; have k19_f2 := k19.frozen 2; simp only [List.set_cons_zero, List.set_cons_succ, List.getElem?_cons_zero, List.getElem?_cons_succ] at k19_0 k19_1 k19_2; have lt_k19 := k19.lt
                exact bodyPost_ret (v := .tuple #[dsV (some ⟨gf, 0, none⟩) l.length cap7 s.at_ true, .slice (some ⟨G, 0, none⟩) l.length l.length, .int .i64 0]) (by simp only [results, Try.results12]; go_simp) rfl ⟨dsV (some ⟨gf, 0, none⟩) l.length cap7 s.at_ true, some ⟨G, 0, none⟩, l.length, by rw [hSRT.out]; exact congrArg (fun n => Ending.returned (.tuple #[dsV (some ⟨gf, 0, none⟩) l.length cap7 s.at_ true, .slice (some ⟨G, 0, none⟩) n l.length, .int .i64 0])) (by rw [List.length_set]; exact hn2.symm), by rw [hSRT.out]; exact ⟨some ⟨gf, 0, none⟩, cap7, congrArg (fun n => dsV (some ⟨gf, 0, none⟩) n cap7 s.at_ true) (by rw [List.length_set]; exact hn1.symm), own_rd own9⟩, by rw [hSRT.out]; exact kG9.rd, hb9⟩
              | false =>
                go_wp2_with fail
                (try clear k0_0 k0_f0 k0_1 k0_f1 k0_2 k0_f2 lt_k0) ; (try clear k1_0 k1_f0 k1_1 k1_f1 k1_2 k1_f2 lt_k1)
                have hNN : dNext q s = { rNext s f y (gn : Int) R with at_ := (s.at_ + 1) % s.fl.length, mid := false } := by unfold dNext; rw [HDR.out]
                generalize hV : World.setCell (World.setCell _ _ _) _ _ = w9
                have hb9 : Below w.heap.size w w9 := by subst hV; (repeat first | with_reducible exact hb | refine Below.setCell ?_ (by dsimp only; omega) _)
                have k19 : Bk w9 (w.heap.size + 1) 24 (dsC none 0 0 0 false) := by subst hV; (repeat first | with_reducible exact k1 | refine Bk.far ?_ (by dsimp only; omega) _)
                have hcast : ((s.at_ : Int) + 1) % (l.length : Int) = (((s.at_ + 1) % s.fl.length : Nat) : Int) := by rw [hn1]; push_cast; rfl
                have k09 : Bk w9 w.heap.size 24 (dsC (some ⟨gf, 0, none⟩) l.length cap7 (((s.at_ + 1) % s.fl.length : Nat) : Int) false) := by
                  subst hV
                  rw [← hcast]
                  refine Bk.set_ (Bk.set_ (cs := dsC (some ⟨gf, 0, none⟩) l.length cap7 s.at_ true) ?_ 1 _) 2 _
                  (repeat first | with_reducible exact k0 | refine Bk.far ?_ (by dsimp only; omega) _)
                have kG9 : Bk w9 G 3 (ints (s.went.set s.at_ ((gn : Int) + (R.n : Nat)))) := by
                  subst hV
                  have e9 : ints (s.went.set s.at_ ((gn : Int) + (R.n : Nat))) = (ints s.went).set s.at_ (.int .i64 ((gn : Int) + (R.n : Nat))) := by unfold ints; rw [List.map_set]
                  rw [e9]
                  refine Bk.far (Bk.far (Bk.set_ (Bk.far (Bk.far (Bk.far kG (by dsimp only; omega) _) (by dsimp only; omega) _) (by dsimp only; omega) _) _ _) (by dsimp only; omega) _) (by dsimp only; omega) _
                have own9 : w9.ownsRow x1.heap.size 73 3 (.slice (some ⟨gf, 0, none⟩) l.length cap7) l.length (flR (s.fl.set s.at_ ⟨f.id, f.wt, R.df⟩)) := by
                  subst hV
                  rw [← HSF.out]
                  refine own_far (own_far (own_beside ?_ (by omega) _ _) (by dsimp only; omega) _) (by dsimp only; omega) _
                  exact (World.ownsRow.stored (World.ownsRow.stored (World.ownsRow.stored own _ _).1 _ _).1 _ _).1
                clear hV
                have hnew : SvR w x1.heap.size G (some ⟨gf, 0, none⟩) cap7 l.length q ld SR (dNext q s) (.int .i64 R.left) w9 := by
                  refine ⟨by rw [hNN]; rfl, HSR.out.trans (HLP.out (by first | exact hre | trivial)), .inr HNX.out, ?_, HWX.out, ?_, k19, ?_, ?_, hb9⟩
                  · rw [hNN]; unfold rNext; dsimp only; rw [List.length_set, List.length_set, List.length_set]; exact ⟨hn1, hn2, hn3⟩
                  · rw [hNN]; exact k09
                  · rw [hNN]; exact own9
                  · rw [hNN]; exact kG9
                exact ⟨⟨_, hnew⟩, Nat.lt_of_le_of_lt (muOf_le (m := dMu) hnew) (by rw [← HMU.out]; exact HMU2.out (by first | exact hre | trivial))⟩
    · have hr : SR = ⟨l, at_, mid, [], dMay q t ld⟩ := by rw [← hSR]; unfold dServe; rw [if_neg (by simpa using he), if_pos hm]
      have hne : (dMay q t ld != 0) = true := by simpa using hm
      have HR := hide hr
      generalize dMay q t ld = ec at *
      clear hm hSR hr
      go_wp2_with fail
      refine wp_region_mt 5 [(4, only (.int .i64 ec))] (by kernel_rfl) (by kernel_rfl) (by kernel_rfl) (by kernel_rfl) (sts_cons (sts_only _) sts_nil) (fun kq => ?_); (try dsimp only [List.append, List.take])
      (repeat (refine wpM_via (by kernel_rfl) ?_; go_big_quiet_step (fail); refine wpQuiet_nil ?_))
      (refine wpM_only _ (.int .i64 ec) (by kernel_rfl) (by kernel_rfl) rfl (later_some _) ?_ ?_; (focus (intro x hx hk; obtain ⟨px, rfl⟩ := hx; go_simp; (first | with_reducible refine mUpon_enter ?_ | with_reducible refine mUpon_value ?_); go_at_call 32; exact (hM _ (hb1.step (below_regrown x1 _ _))).mo)); intro K hK; go_big_quiet_op; refine hK _ ?_; clear hK K)
      refine wpM_nil ?_; intro wq hwq hfq; have hbq := below_of_class hwq; clear hwq kq; (try dsimp only [List.drop])
      replace k0 := k0.step hbq; (try clear k0_0 k0_f0 k0_1 k0_f1 k0_2 k0_f2); have k0_0 := k0.cell 0; have k0_f0 := k0.frozen 0; have k0_1 := k0.cell 1; have k0_f1 := k0.frozen 1; have k0_2 := k0.cell 2; have k0_f2 := k0.frozen 2; simp only [List.set_cons_zero, List.set_cons_succ, List.getElem?_cons_zero, List.getElem?_cons_succ] at k0_0 k0_1 k0_2; (try clear lt_k0); have lt_k0 := k0.lt; replace k1 := k1.step hbq; (try clear k1_0 k1_f0 k1_1 k1_f1 k1_2 k1_f2); have k1_0 := k1.cell 0; have k1_f0 := k1.frozen 0; have k1_1 := k1.cell 1; have k1_f1 := k1.frozen 1; have k1_2 := k1.cell 2; have k1_f2 := k1.frozen 2; simp only [List.set_cons_zero, List.set_cons_succ, List.getElem?_cons_zero, List.getElem?_cons_succ] at k1_0 k1_1 k1_2; (try clear lt_k1); have lt_k1 := k1.lt
      replace hb1 : Below w.heap.size w wq := hb1.step hbq
      clear hfq hbq
      go_wp2
      (try clear k0_0 k0_f0 k0_1 k0_f1 k0_2 k0_f2 lt_k0) ; (try clear k1_0 k1_f0 k1_1 k1_f1 k1_2 k1_f2 lt_k1)
      generalize hV : World.setCell (World.setCell (World.setCell wq _ _) _ _) _ _ = w4
      have hb4 : Below w.heap.size w w4 := by subst hV; exact ((hb1.setCell (by dsimp only; omega) _).setCell (by dsimp only; omega) _).setCell (by dsimp only; omega) _
      replace k1 : Bk w4 (w.heap.size + 1) 24 (dsC A l.length c at_ mid) := by subst hV; exact ((k1.set_ 0 _).set_ 1 _).set_ 2 _
      clear hV
      have k1_0 := k1.cell 0; have k1_f0 := k1.frozen 0; have k1_1 := k1.cell 1; have k1_f1 := k1.frozen 1; have k1_2 := k1.cell 2; have k1_f2 := k1.frozen 2; simp only [List.set_cons_zero, List.set_cons_succ, List.getElem?_cons_zero, List.getElem?_cons_succ] at k1_0 k1_1 k1_2; have lt_k1 := k1.lt
      exact bodyPost_ret (v := .tuple #[dsV A l.length c at_ mid, .slice none 0 0, .int .i64 ec]) (by simp only [results, Try.results12]; go_simp) rfl ⟨_, none, 0, by rw [HR.out]; rfl, by rw [HR.out]; exact ⟨A, c, rfl, (ha.below hb4).more hb4.size⟩, by rw [HR.out]; exact Rd.nil, hb4⟩
  · have hr : SR = ⟨l, at_, mid, [], dCheck l at_ mid⟩ := by rw [← hSR]; unfold dServe; rw [if_pos he]
    have hne : (dCheck l at_ mid != 0) = true := by simpa using he
    have HR := hide hr
    generalize dCheck l at_ mid = ec at *
    clear he hSR hr
    go_wp2_with fail
    refine wp_region_mt 3 [(2, only (.int .i64 ec))] (by kernel_rfl) (by kernel_rfl) (by kernel_rfl) (by kernel_rfl) (sts_cons (sts_only _) sts_nil) (fun kq => ?_); (try dsimp only [List.append, List.take])
    (repeat (refine wpM_via (by kernel_rfl) ?_; go_big_quiet_step (fail); refine wpQuiet_nil ?_))
    (refine wpM_only _ (.int .i64 ec) (by kernel_rfl) (by kernel_rfl) rfl (later_some _) ?_ ?_; (focus (intro x hx hk; obtain ⟨px, rfl⟩ := hx; go_simp; (first | with_reducible refine mUpon_enter ?_ | with_reducible refine mUpon_value ?_); go_at_call 23; exact (hC _ (hb1.step (below_regrown x0 _ _))).mo)); intro K hK; go_big_quiet_op; refine hK _ ?_; clear hK K)
    refine wpM_nil ?_; intro wq hwq hfq; have hbq := below_of_class hwq; clear hwq kq; (try dsimp only [List.drop])
    replace k0 := k0.step hbq; (try clear k0_0 k0_f0 k0_1 k0_f1 k0_2 k0_f2); have k0_0 := k0.cell 0; have k0_f0 := k0.frozen 0; have k0_1 := k0.cell 1; have k0_f1 := k0.frozen 1; have k0_2 := k0.cell 2; have k0_f2 := k0.frozen 2; simp only [List.set_cons_zero, List.set_cons_succ, List.getElem?_cons_zero, List.getElem?_cons_succ] at k0_0 k0_1 k0_2; (try clear lt_k0); have lt_k0 := k0.lt; replace k1 := k1.step hbq; (try clear k1_0 k1_f0 k1_1 k1_f1 k1_2 k1_f2); have k1_0 := k1.cell 0; have k1_f0 := k1.frozen 0; have k1_1 := k1.cell 1; have k1_f1 := k1.frozen 1; have k1_2 := k1.cell 2; have k1_f2 := k1.frozen 2; simp only [List.set_cons_zero, List.set_cons_succ, List.getElem?_cons_zero, List.getElem?_cons_succ] at k1_0 k1_1 k1_2; (try clear lt_k1); have lt_k1 := k1.lt
    replace hb1 : Below w.heap.size w wq := hb1.step hbq
    clear hfq hbq
    go_wp2
    (try clear k0_0 k0_f0 k0_1 k0_f1 k0_2 k0_f2 lt_k0) ; (try clear k1_0 k1_f0 k1_1 k1_f1 k1_2 k1_f2 lt_k1)
    generalize hV : World.setCell (World.setCell (World.setCell wq _ _) _ _) _ _ = w4
    have hb4 : Below w.heap.size w w4 := by subst hV; exact ((hb1.setCell (by dsimp only; omega) _).setCell (by dsimp only; omega) _).setCell (by dsimp only; omega) _
    replace k1 : Bk w4 (w.heap.size + 1) 24 (dsC A l.length c at_ mid) := by subst hV; exact ((k1.set_ 0 _).set_ 1 _).set_ 2 _
    clear hV
    have k1_0 := k1.cell 0; have k1_f0 := k1.frozen 0; have k1_1 := k1.cell 1; have k1_f1 := k1.frozen 1; have k1_2 := k1.cell 2; have k1_f2 := k1.frozen 2; simp only [List.set_cons_zero, List.set_cons_succ, List.getElem?_cons_zero, List.getElem?_cons_succ] at k1_0 k1_1 k1_2; have lt_k1 := k1.lt
    exact bodyPost_ret (v := .tuple #[dsV A l.length c at_ mid, .slice none 0 0, .int .i64 ec]) (by simp only [results, Try.results12]; go_simp) rfl ⟨_, none, 0, by rw [HR.out]; rfl, by rw [HR.out]; exact ⟨A, c, rfl, (ha.below hb4).more hb4.size⟩, by rw [HR.out]; exact Rd.nil, hb4⟩
end Go.Proofs.Yteblbleehnkcmaa
