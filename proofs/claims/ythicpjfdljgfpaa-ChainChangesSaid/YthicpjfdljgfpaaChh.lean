/- Package chain: walk (a goto back to a label). -/
import Derived.Test.YthicpjfdljgfpaaChg
import Derived.ScopeJumps
namespace Go.Proofs.Ythicpjfdljgfpaa
open Go.RowKit Go.Sort
set_option linter.unusedSimpArgs false
set_option linter.unusedVariables false

theorem wp_mono_post {P : Program} {c : Code} {Q R : Exit → Act → World → Prop} {a : Act} {w : World} (h : c.wp P Q a w) (hi : ∀ e a w, Q e a w → R e a w) : c.wp P R a w := by
  intro b k cs
  obtain ⟨e, a', w', hq, ha⟩ := h b k cs
  exact ⟨e, a', w', hi e a' w' hq, ha⟩
theorem min_of {p : Nat → Prop} (h : ∃ n, p n) : ∃ n, p n ∧ ∀ k, p k → n ≤ k := by
  obtain ⟨n, hn⟩ := h
  induction n using Nat.strongRecOn with
  | _ n ih =>
    by_cases h : ∃ k, k < n ∧ p k
    · obtain ⟨k, hk, hp⟩ := h
      exact ih k hk hp
    · exact ⟨n, hn, fun k hk => by
        rcases Nat.lt_or_ge k n with h1 | h1
        · exact absurd ⟨k, h1, hk⟩ h
        · exact h1⟩
/-- a scope with jumps back to one label, by what holds there of something that a measure lowers -/
theorem wp_scope_rel {P : Program} {ι : Type} {a : Act} {w : World} {Q : Exit → Act → World → Prop} {c rest : Code} (l : Nat) (R : ι → Act → World → Prop) (m : ι → Nat) (hf : findLabel c l = some (Code.skip.seq rest))
    (pass : ∀ i a w, R i a w → rest.wp P (Exit.jump l (fun a' w' => ∃ j, R j a' w' ∧ m j < m i) Q) a w)
    (first : (∀ i a w, R i a w → rest.wp P (Exit.jump l (fun a w => ∃ i, R i a w) Q) a w) → c.wp P (Exit.jump l (fun a w => ∃ i, R i a w) Q) a w) : (Code.scope c).wp P Q a w := by
  classical
  have hmin : ∀ a w, (∃ i, R i a w) → ∃ n, ∃ i, R i a w ∧ m i = n := fun a w ⟨i, h⟩ => ⟨m i, i, h, rfl⟩
  let μ : Act → World → Nat := fun a w => if h : ∃ n, ∃ i, R i a w ∧ m i = n then Classical.choose (min_of h) else 0
  have hμ : ∀ a w i, R i a w → μ a w ≤ m i := fun a w i hi => by
    have h : ∃ n, ∃ i, R i a w ∧ m i = n := ⟨m i, i, hi, rfl⟩
    show (if h : ∃ n, ∃ i, R i a w ∧ m i = n then Classical.choose (min_of h) else 0) ≤ m i
    rw [dif_pos h]
    exact (Classical.choose_spec (min_of h)).2 _ ⟨i, hi, rfl⟩
  have jm : ∀ {J J' : Act → World → Prop}, (∀ a w, J a w → J' a w) → ∀ e a w, Exit.jump l J Q e a w → Exit.jump l J' Q e a w := fun hJ e a w h => by
    cases e with
    | goto l' => exact ⟨h.1, hJ _ _ h.2⟩
    | _ => exact h
  refine wp_scope_jumps l (fun a w => ∃ i, R i a w) μ hf (first fun i a w h => wp_mono_post (pass i a w h) (jm fun a' w' ⟨j, hj, _⟩ => ⟨j, hj⟩)) ?_
  intro a w hJ
  refine wp_seq (wp_skip ?_)
  show rest.wp P _ a w
  have h := hmin a w hJ
  obtain ⟨i, hi, hmi⟩ := (Classical.choose_spec (min_of h)).1
  have e : μ a w = m i := by
    show (if h : ∃ n, ∃ i, R i a w ∧ m i = n then Classical.choose (min_of h) else 0) = m i
    rw [dif_pos h, hmi]
  refine wp_mono_post (pass i a w hi) (jm fun a' w' ⟨j, hj, hlt⟩ => ⟨⟨j, hj⟩, ?_⟩)
  have := hμ a' w' j hj
  omega
abbrev nI (l : List Nat) : List Int := l.map (fun (x : Nat) => (x : Int))
/-- what holds at the label -/
def WkJ (w : World) (V : Value) (list : Int) (A B C : Option Addr) (a b c : Nat) (st : Ch) (R : List Nat) (k : Nat) (at_ : Int) (out : List Nat) (x : Act) (wr : World) : Prop :=
  ∃ (u : Nat → Value) (O : Option Addr) (co : Nat), x = ⟨#[V, .int .i64 list, .pointer (some ⟨w.heap.size, 0, none⟩), u 3, u 4, .slice O out.length co, .int .i64 at_, u 7, u 8, u 9, u 10, u 11, u 12, u 13, u 14, u 15, u 16, u 17, u 18, u 19, u 20, u 21, u 22, u 23, u 24, u 25, u 26, u 27, u 28, u 29, u 30, u 31, u 32], []⟩ ∧
    R = out ++ cGo st.ns k at_ ∧ k + out.length = st.ns.length + 1 ∧ (-1 ≤ at_ ∧ at_ ≤ (st.ns.length : Int) - 1) ∧ wr.ownsRow (w.heap.size + 1) 3 1 (.slice O out.length co) out.length (ints (nI out)) ∧
    Bk wr w.heap.size 30 (csC A B C a b c st.ns.length st.hs.length st.ts.length) ∧ Below w.heap.size w wr
set_option maxRecDepth 100000 in
set_option maxHeartbeats 8000000 in
theorem chain_walk_any (A B C : Option Addr) (a b c : Nat) (st : Ch) (i : Nat) (w : World) (hi : i < st.hs.length) (h1 : st.ns.length ≤ 1000) (h2 : st.hs.length ≤ 1000) (hb : ∀ x ∈ st.ns, -1 ≤ x.n ∧ x.n ≤ (st.ns.length : Int) - 1) (hh : ∀ x ∈ st.hs, -1 ≤ x ∧ x ≤ (st.ns.length : Int) - 1)
    (rA : Rd w w.heap.size A (nds st.ns)) (rB : Rd w w.heap.size B (ints st.hs)) :
    Calls Try.prog 52 #[csV A B C a b c st.ns.length st.hs.length st.ts.length, .int .i64 i] w fun e w' => ∃ O co, e = .returned (.slice O (cWalk st i).length co) ∧ w'.ownsRow w.heap.size 3 1 (.slice O (cWalk st i).length co) (cWalk st i).length (ints (nI (cWalk st i))) ∧ Below w.heap.size w w' := by
  obtain ⟨iT, hiT, hz0, hz1, hz2⟩ := info_parts cint_info
  have HB := hide hb
  have HW := hide (show cWalk st i = cGo st.ns (st.ns.length + 1) st.hs[i] by unfold cWalk; congr 1; simp [List.getD, hi])
  have hbd := hh _ (List.getElem_mem hi)
  generalize cWalk st i = R at *
  have hi2 : (i : Int) < (st.hs.length : Int) := by omega
  go_enter Try.func52, Try.ntmps52
  go_upto_region 2 with fail
  generalize hV : World.alloc w _ = w1
  have hb1 : Below w.heap.size w w1 := by subst hV; (repeat (first | with_reducible exact Below.refl _ _ | with_reducible assumption | with_reducible refine Below.drew ?_ | with_reducible refine Below.drewN ?_ _ | with_reducible refine Below.alloc1 ?_ _ | with_reducible refine Below.setCell1 ?_ (by first | omega | (simp; done) | (simp; omega)) _ | with_reducible refine Below.step ?_ (by with_reducible assumption)))
  have k0 : Bk w1 w.heap.size 30 (csC A B C a b c st.ns.length st.hs.length st.ts.length) := by subst hV; (repeat (first | with_reducible exact Bk.new' _ _ _ _ (by simp; done) | with_reducible assumption | with_reducible refine Bk.alloc ?_ _ | with_reducible refine Bk.drew ?_ | with_reducible refine Bk.drewN ?_ _ | with_reducible refine Bk.step ?_ (by with_reducible assumption) | with_reducible refine Bk.far ?_ (by first | omega | (simp; done) | (simp; omega)) _))
  clear hV
  obtain ⟨bd, rfl, hbdb, hcb⟩ := (rB.step hb1).at_ (k := i) (by simpa using hi)
  rw [ints_get st.hs i hi] at hcb
  have k0_0 := k0.cell 0; have k0_1 := k0.cell 1; simp only [List.getElem?_cons_succ, List.getElem?_cons_zero] at k0_0 k0_1
  go_wp2
  clear k0_0 k0_1
  refine wp_scope_rel (ι := Nat × Int × List Nat) 0 (fun q x wr => WkJ w (csV A (some bd) C a b c st.ns.length st.hs.length st.ts.length) i A (some bd) C a b c st R q.1 q.2.1 q.2.2 x wr) (fun q => q.1) rfl ?pass ?first
  case pass =>
    rintro ⟨k, at_, out⟩ x wr ⟨u, O, co, rfl, hR, hk, hat, own, kst, hb⟩
    dsimp only at *
    have lk := kst.lt
    clear k0 hb1 rB hcb hbdb
    have kst_0 := kst.cell 0; have kst_f0 := kst.frozen 0; have kst_1 := kst.cell 1; have kst_f1 := kst.frozen 1; have kst_2 := kst.cell 2; have kst_f2 := kst.frozen 2; simp only [List.set_cons_zero, List.set_cons_succ, List.getElem?_cons_zero, List.getElem?_cons_succ] at kst_0 kst_1 kst_2; have lt_kst := kst.lt
    by_cases he : at_ = -1
    · subst he
      have hR2 : R = out := by rw [hR]; cases k <;> simp [cGo]
      go_wp2_with fail
      simp only [Exit.jump]
      exact bodyPost_ret (v := .slice O out.length co) (by simp only [results, Try.results52]; go_simp) rfl ⟨O, co, by rw [hR2], by rw [hR2]; exact own_mono own (by omega), hb⟩
    · have b1 : (at_ == -1) = false := by simpa using he
      by_cases hf : k = 0
      · subst hf
        have hR2 : R = out := by rw [hR]; simp [cGo]
        have b2 : (st.ns.length : Int) < (out.length : Int) := by omega
        go_wp2_with fail
        simp only [Exit.jump]
        exact bodyPost_ret (v := .slice O out.length co) (by simp only [results, Try.results52]; go_simp) rfl ⟨O, co, by rw [hR2], by rw [hR2]; exact own_mono own (by omega), hb⟩
      · obtain ⟨k', rfl⟩ : ∃ k', k = k' + 1 := ⟨k - 1, by omega⟩
        obtain ⟨p, rfl⟩ : ∃ p : Nat, at_ = (p : Int) := ⟨at_.toNat, by omega⟩
        have hp : p < st.ns.length := by omega
        have b2 : (out.length : Int) ≤ (st.ns.length : Int) := by omega
        have HR := hide hR
        have HK := hide hk
        obtain ⟨ad, rfl, hadb, c1, c2, c3⟩ := (rA.below hb).nd hp
        have hnb := HB.out _ (List.getElem_mem hp)
        have HG := hide (show st.ns.getD p nd0 = st.ns[p] by simp [List.getD, hp])
        generalize st.ns[p] = q at *
        have hol : out.length ≤ 1000 := by omega
        clear hR hk
        have c2g := c2
        go_wp2_with (at_builtin; refine wpList_app2 rfl (.tmp 23) (.tmp 25) 23 rfl (w.heap.size + 1) 3 iT _ 1 8 Try.underlying23 hiT hz0 hz1 hz2 rfl (by omega) O out.length co (ints (nI out)) rfl (own.alloc _) ⟨wr.heap.size, 0, none⟩ 1 1 [.int .i64 (p : Int)] rfl rfl (news_at (cs := [_])) (by simp [Value.oneCell']) (by unfold maxLen; omega) (by omega) (by simp; omega) (by omega) ?_; intro gO co2 w5 own5 hb5 hg5; (have k5 := (kst.alloc (.cells #[.int .i64 (p : Int)] 3)).below hb5 (by omega)); have k5_0 := k5.cell 0; have k5_f0 := k5.frozen 0; have k5_1 := k5.cell 1; have k5_f1 := k5.frozen 1; have k5_2 := k5.cell 2; have k5_f2 := k5.frozen 2; simp only [List.set_cons_zero, List.set_cons_succ, List.getElem?_cons_zero, List.getElem?_cons_succ] at k5_0 k5_1 k5_2; have lt_k5 := k5.lt; (have c5 : w5.cell? { block := (ad.add (p * 3)).block, off := (ad.add (p * 3)).off + 1 } = some (.int .i64 q.n) := (hb5.cell (p := ⟨(ad.add (p * 3)).block, (ad.add (p * 3)).off + 1, none⟩) (by rw [add_block]; omega)).trans (((Below.refl wr.heap.size wr).alloc1 (.cells #[.int .i64 (p : Int)] 3)).cell (p := ⟨(ad.add (p * 3)).block, (ad.add (p * 3)).off + 1, none⟩) (by rw [add_block]; omega) |>.trans c2g)))
        go_step3
        refine ⟨rfl, (k', q.n, out ++ [p]), ?_, by omega⟩
        refine ⟨fun i => List.getD [undef, undef, undef, _, _, undef, undef, _, _, _, _, _, _, _, _, _, _, _, _, _, _, _, _, _, _, _, _, _, _, _, _, _, _] i undef, some ⟨gO, 0, none⟩, co2, by rw [List.length_append]; rfl, ?_, ?_, hnb, ?_, k5, ?_⟩
        · have e := HR.out
          rw [cGo, if_neg (by omega)] at e
          rw [e]
          simp only [Int.toNat_natCast, HG.out, List.append_assoc, List.cons_append, List.nil_append]
        · have := HK.out; simp; omega
        · have e : ints (nI (out ++ [p])) = ints (nI out) ++ [.int .i64 (p : Int)] := by simp
          rw [e, List.length_append]; exact own5
        · exact ((hb.alloc (by omega) (.cells #[.int .i64 (p : Int)] 3))).trans (hb5.mono (by omega))
  intro hpass
  have k0_0 := k0.cell 0; have k0_f0 := k0.frozen 0; have k0_1 := k0.cell 1; have k0_f1 := k0.frozen 1; have k0_2 := k0.cell 2; have k0_f2 := k0.frozen 2; simp only [List.set_cons_zero, List.set_cons_succ, List.getElem?_cons_zero, List.getElem?_cons_succ] at k0_0 k0_1 k0_2; have lt_k0 := k0.lt
  go_wp2_with fail
  go_step3
  rename_i kK hK
  refine hK _ _ ?_
  refine hpass (st.ns.length + 1, st.hs[i], []) _ _ ?_
  exact ⟨fun i => List.getD [undef, undef, undef, _, _, undef, undef, _, _, _, _, _, _, _, _, _, _, _, _, _, _, _, _, _, _, _, _, _, _, _, _, _, _] i undef, none, 0, rfl, by simpa using HW.out, by simp, hbd, World.ownsRow_nil _ _ _ _, k0, hb1⟩
end Go.Proofs.Ythicpjfdljgfpaa
