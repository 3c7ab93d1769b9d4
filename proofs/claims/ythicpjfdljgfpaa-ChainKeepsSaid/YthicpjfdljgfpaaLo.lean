/- callboylaw04: ChainOrder's walk. -/
import Derived.Test.YthicpjfdljgfpaaAw04
import Derived.Test.YthicpjfdljgfpaaCi
import Derived.Test.YthicpjfdljgfpaaRel6
import Derived.Test.YthicpjfdljgfpaaGrd
namespace Go.Proofs.Ythicpjfdljgfpaa
open Go.RowKit Go.Sort
set_option linter.unusedSimpArgs false
set_option linter.unusedVariables false

theorem TyA.kept {w w' : World} {T : TypeId} {A : Option Addr} {row : Option Nat} (h : TyA w T A) (hg : w.grownBy w' row) (hne : ∀ ad, A = some ad → row ≠ some ad.block) : TyA w' T A := fun ad e => by
  obtain ⟨cs, fr, h1⟩ := h ad e
  exact ⟨cs, fr, (hg.block _ (Array.getElem?_eq_some_iff.1 h1).1 (fun q => hne ad e q.symm)).trans h1⟩
theorem RwN.kept {b : Nat} {w w' : World} {T : TypeId} {A : Option Addr} {xs : List Value} {row : Option Nat} (h : RwN b w T A xs) (hg : w.grownBy w' row) (hr : ∀ j, row = some j → j < b) : RwN b w' T A xs := by
  have h1 : ∀ ad, A = some ad → row ≠ some ad.block := fun ad e e2 => by have := hr _ e2; have := h.fr ad e; omega
  exact ⟨h.rd.kept hg h1, h.fr, h.ty.kept hg h1⟩
theorem CsNew.kept {b : Nat} {w w' : World} {V : Value} {st : Ch} {row : Option Nat} (h : CsNew b w V st) (hg : w.grownBy w' row) (hr : ∀ j, row = some j → j < b) : CsNew b w' V st := by
  obtain ⟨A, B, C, a', b', c', e, r1, r2, r3⟩ := h
  exact ⟨A, B, C, a', b', c', e, r1.kept hg hr, r2.kept hg hr, r3.kept hg hr⟩
/-- a state in its variable's block -/
def StB (w : World) (g : Nat) (st : Ch) : Prop := ∃ A B C a b c, Bk w g 30 (csC A B C a b c st.ns.length st.hs.length st.ts.length) ∧ CsNew 0 w (csV A B C a b c st.ns.length st.hs.length st.ts.length) st
theorem StB.step {w w' : World} {g : Nat} {st : Ch} (h : StB w g st) (hb : Below w.heap.size w w') : StB w' g st := by
  obtain ⟨A, B, C, a, b, c, k, r⟩ := h
  exact ⟨A, B, C, a, b, c, k.step hb, r.step hb⟩
def one (wl : List Nat) : Ch := laid 64 [wl]
theorem one_lens (wl : List Nat) : (one wl).ns.length ≤ 1000 ∧ (one wl).hs.length ≤ 1000 ∧ (one wl).ts.length ≤ 1000 := by
  obtain ⟨a, b, c⟩ := laid_lens 64 [wl]
  unfold one
  rw [a, b, c]; simp
theorem one_push {wl : List Nat} (hG : Good 64 [wl]) {a : Nat} (ha : a < 64) : cPush (one wl) 0 a = (one wl, 13) ∨ (cPush (one wl) 0 a = (one (wl ++ [a]), 0) ∧ Good 64 [wl ++ [a]]) := by
  rcases hG.push (i := 0) (by simp) ha with ⟨_, h⟩ | ⟨_, h1, h2⟩
  · exact .inl h
  · exact .inr ⟨h1, h2⟩
set_option maxRecDepth 100000 in
set_option maxHeartbeats 16000000 in
theorem ChainOrder_walk (A : Option Addr) (c : Nat) (l : List Int) (w : World) (hl : l.length ≤ maxLen) (hbl : ∀ x ∈ l, 0 ≤ x ∧ x ≤ 255) (hA : Rd w w.heap.size A (l.map (Value.int .u8))) :
    Calls Try.prog 6 #[.slice A l.length c] w fun e w' => e = .returned (.bool true) ∧ Below w.heap.size w w' := by
  unfold maxLen at hl
  by_cases hf : 40 < l.length
  · have i1 : (40 : Int) < (l.length : Int) := by omega
    clear hf
    go_enter Try.func6, Try.ntmps6
    go_wp2_with fail
    refine (awake04_any _).mono ?_; rintro e y1 ⟨rfl, hx⟩
    go_wp2
    go_ret
    exact ⟨rfl, by (repeat (first | with_reducible exact Below.refl _ _ | with_reducible assumption | with_reducible refine Below.drew ?_ | with_reducible refine Below.drewN ?_ _ | with_reducible refine Below.alloc1 ?_ _ | with_reducible refine Below.setCell1 ?_ (by first | omega | (simp; done) | (simp; omega)) _ | with_reducible refine Below.step ?_ (by with_reducible assumption)))⟩
  have i1 : (l.length : Int) ≤ 40 := by omega
  clear hf
  obtain ⟨iT, hiT, hz0, hz1, hz2⟩ := info_parts cint_info
  obtain ⟨hG0, hN0⟩ := good_new (n := 64) (k := 1) (by omega) (by omega)
  have hN := fun W => chain_New_any 64 1 W
  rw [show ((64 : Int)) = ((64 : Nat) : Int) from rfl, show ((1 : Int)) = ((1 : Nat) : Int) from rfl, hN0] at hN
  have HG0 := hide (show Good 64 [[]] from hG0)
  clear hG0 hN0
  go_enter Try.func6, Try.ntmps6
  go_wp2_with fail
  refine (hN _).mono ?_; rintro e w1 ⟨_, rfl, hn, hy⟩
  obtain ⟨A0, B0, C0, a0, b0, c0, rfl, hq⟩ := hn
  have n0 : CsNew 0 w1 (csV A0 B0 C0 a0 b0 c0 (one []).ns.length (one []).hs.length (one []).ts.length) (one []) := CsNew.mono ⟨A0, B0, C0, a0, b0, c0, rfl, hq⟩ (Nat.zero_le _)
  clear hq hN
  go_upto_region 8 with fail
  generalize hV : World.alloc w1 _ = w2
  have hy2 : Below w1.heap.size w1 w2 := by subst hV; (repeat (first | with_reducible exact Below.refl _ _ | with_reducible assumption | with_reducible refine Below.drew ?_ | with_reducible refine Below.drewN ?_ _ | with_reducible refine Below.alloc1 ?_ _ | with_reducible refine Below.setCell1 ?_ (by first | omega | (simp; done) | (simp; omega)) _ | with_reducible refine Below.step ?_ (by with_reducible assumption)))
  have k3 : Bk w2 w1.heap.size 30 (csC A0 B0 C0 a0 b0 c0 (one []).ns.length (one []).hs.length (one []).ts.length) := by subst hV; exact Bk.new' w1 30 (csC A0 B0 C0 a0 b0 c0 (one []).ns.length (one []).hs.length (one []).ts.length) _ rfl
  clear hV
  have s3 : StB w2 w1.heap.size (one []) := ⟨A0, B0, C0, a0, b0, c0, k3, n0.step hy2⟩
  have hb : Below w.heap.size w w2 := hy.step hy2
  have hg3 : w.heap.size ≤ w1.heap.size ∧ w1.heap.size < w2.heap.size := ⟨hy.size, k3.lt⟩
  have hA2 := hA.below hb
  clear k3 n0 hy2 hy
  generalize w1.heap.size = g3 at *
  go_loopw [5, 6] (fun v5 v6 wr => ∃ (wl : List Nat) (i : Nat) (O : Option Addr) (co : Nat), v5 = .slice O wl.length co ∧ v6 = .int .i64 i ∧ (i ≤ l.length ∧ wl.length ≤ i) ∧ Hid (Good 64 [wl]) ∧ wr.ownsRow w2.heap.size 3 1 (.slice O wl.length co) wl.length (ints (nI wl)) ∧ StB wr g3 (one wl) ∧ Below g3 w2 wr) (fun _ v _ => match v with | .int _ k => l.length - k.toNat | _ => 0)
  case atStart => exact ⟨[], 0, none, 0, rfl, rfl, by simp, HG0, World.ownsRow_nil _ _ _ _, s3, Below.refl _ _⟩
  case round =>
    clear s3 HG0
    obtain ⟨wl, i, O, co, rfl, rfl, ⟨hi, hw⟩, HG, own, s3, hbr⟩ := hrel
    by_cases hiq : i = l.length
    · subst hiq
      obtain ⟨wm, rfl⟩ : ∃ wn : World, wn = wr := ⟨_, rfl⟩
      obtain ⟨A3, B3, C3, a3, b3, c3, k3, n3⟩ := s3
      have rO := own_rd own
      have hlw : wl.length ≤ 40 := by omega
      have hb0 : Below w.heap.size w wm := hb.trans (hbr.mono hg3.1)
      have l3 := k3.lt
      clear own hA2 hA hbr hb hbl hiT hz0 hz1 hz2
      go_upto_region 16 with (first | (refine wpList_load_row rfl 30 _ rfl _ rfl _ _ (0, 0) _ k3 Try.underlying30 rfl (by kernel_rfl) ?_))
      generalize hV : World.alloc wm _ = ws
      have hy : Below wm.heap.size wm ws := by subst hV; (repeat (first | with_reducible exact Below.refl _ _ | with_reducible assumption | with_reducible refine Below.drew ?_ | with_reducible refine Below.drewN ?_ _ | with_reducible refine Below.alloc1 ?_ _ | with_reducible refine Below.setCell1 ?_ (by first | omega | (simp; done) | (simp; omega)) _ | with_reducible refine Below.step ?_ (by with_reducible assumption)))
      have k9 : Bk ws wm.heap.size 30 (csC A3 B3 C3 a3 b3 c3 (one wl).ns.length (one wl).hs.length (one wl).ts.length) := by subst hV; exact Bk.new' wm 30 (csC A3 B3 C3 a3 b3 c3 (one wl).ns.length (one wl).hs.length (one wl).ts.length) _ rfl
      clear hV
      have s9 : StB ws wm.heap.size (one wl) := ⟨A3, B3, C3, a3, b3, c3, k9, n3.step hy⟩
      clear k9
      go_loopw [10] (fun v wr => ∃ (j : Nat) (r : List Nat), v = .int .i64 j ∧ j ≤ wl.length ∧ Hid (r = wl.drop j ++ wl.take j) ∧ Hid (Good 64 [r]) ∧ StB wr wm.heap.size (one r) ∧ Below wm.heap.size wm wr) (fun v _ => match v with | .int _ k => wl.length - k.toNat | _ => 0)
      case atStart => exact ⟨0, wl, rfl, Nat.zero_le _, hide (by simp), HG, s9, hy⟩
      case round =>
        clear s9 hy
        obtain ⟨j, r, rfl, hj, Hr, HGr, s9, hbx⟩ := hrel
        obtain ⟨A9, B9, C9, a9, b9, c9, k9, n9⟩ := s9
        have l9 := k9.lt
        by_cases hjl : j = wl.length
        · have e0 : r = wl := by rw [Hr.out, hjl]; simp
          subst e0
          subst hjl
          have hX := hbx.size
          have n3x := (n3.at_).step hbx
          have rOx := rO.step hbx
          have k3x := k3.below hbx l3
          have hbw : Below w.heap.size w wr := hb0.step hbx
          have hW1 := fun W h => chain_Walk_at (csV A3 B3 C3 a3 b3 c3 (one r).ns.length (one r).hs.length (one r).ts.length) (one r) W (one_lens r).1 (one_lens r).2.1 (one_lens r).2.2 h 0
          have hW2 := fun W h => chain_Walk_at (csV A9 B9 C9 a9 b9 c9 (one r).ns.length (one r).hs.length (one r).ts.length) (one r) W (one_lens r).1 (one_lens r).2.1 (one_lens r).2.2 h 0
          have hS := fun W h h' => chain_Same_at (csV A9 B9 C9 a9 b9 c9 (one r).ns.length (one r).hs.length (one r).ts.length) (csV A3 B3 C3 a3 b3 c3 (one r).ns.length (one r).hs.length (one r).ts.length) (one r) (one r) W (one_lens r).1 (one_lens r).2.1 (one_lens r).2.2 h h'
          rw [show cWalkR (one r) 0 = r from HGr.out.walk (i := 0) (by simp)] at hW1 hW2
          rw [show cSame (one r) (one r) = true by simp [cSame]] at hS
          have hI := fun (O1 : Option Addr) (c1 : Nat) (W : World) h h' => SameInts_any O1 O c1 co (nI r) (nI r) W (by unfold maxLen; simp; omega) h h'
          simp only [List.length_map, nI, decide_true] at hI
          clear Hr HGr HG k3 n3 rO hbx hb0
          have k3x_0 := k3x.cell 0; have k3x_f0 := k3x.frozen 0; have k3x_1 := k3x.cell 1; have k3x_f1 := k3x.frozen 1; have k3x_2 := k3x.cell 2; have k3x_f2 := k3x.frozen 2; simp only [List.set_cons_zero, List.set_cons_succ, List.getElem?_cons_zero, List.getElem?_cons_succ] at k3x_0 k3x_1 k3x_2; have lt_k3x := k3x.lt; have k9_0 := k9.cell 0; have k9_f0 := k9.frozen 0; have k9_1 := k9.cell 1; have k9_f1 := k9.frozen 1; have k9_2 := k9.cell 2; have k9_f2 := k9.frozen 2; simp only [List.set_cons_zero, List.set_cons_succ, List.getElem?_cons_zero, List.getElem?_cons_succ] at k9_0 k9_1 k9_2; have lt_k9 := k9.lt
          go_wp2_with fail
          refine (hW1 _ n3x).mono ?_; rintro e y1 ⟨O1, c1, rfl, ow, hy⟩
          have r1 := own_rd ow
          replace k3x := k3x.step hy; (try clear k3x_0 k3x_f0 k3x_1 k3x_f1 k3x_2 k3x_f2); have k3x_0 := k3x.cell 0; have k3x_f0 := k3x.frozen 0; have k3x_1 := k3x.cell 1; have k3x_f1 := k3x.frozen 1; have k3x_2 := k3x.cell 2; have k3x_f2 := k3x.frozen 2; simp only [List.set_cons_zero, List.set_cons_succ, List.getElem?_cons_zero, List.getElem?_cons_succ] at k3x_0 k3x_1 k3x_2; (try clear lt_k3x); have lt_k3x := k3x.lt; replace k9 := k9.step hy; (try clear k9_0 k9_f0 k9_1 k9_f1 k9_2 k9_f2); have k9_0 := k9.cell 0; have k9_f0 := k9.frozen 0; have k9_1 := k9.cell 1; have k9_f1 := k9.frozen 1; have k9_2 := k9.cell 2; have k9_f2 := k9.frozen 2; simp only [List.set_cons_zero, List.set_cons_succ, List.getElem?_cons_zero, List.getElem?_cons_succ] at k9_0 k9_1 k9_2; (try clear lt_k9); have lt_k9 := k9.lt
          replace n3x := n3x.step hy; replace n9 := n9.step hy; replace rOx := rOx.step hy; replace hbw := hbw.step hy
          clear hy ow hW1
          go_wp2_with fail
          refine (hI O1 c1 _ r1 rOx).mono ?_; rintro e y2 ⟨rfl, hq⟩
          have hy := qt_below hq
          replace k3x := k3x.step hy; (try clear k3x_0 k3x_f0 k3x_1 k3x_f1 k3x_2 k3x_f2); have k3x_0 := k3x.cell 0; have k3x_f0 := k3x.frozen 0; have k3x_1 := k3x.cell 1; have k3x_f1 := k3x.frozen 1; have k3x_2 := k3x.cell 2; have k3x_f2 := k3x.frozen 2; simp only [List.set_cons_zero, List.set_cons_succ, List.getElem?_cons_zero, List.getElem?_cons_succ] at k3x_0 k3x_1 k3x_2; (try clear lt_k3x); have lt_k3x := k3x.lt; replace k9 := k9.step hy; (try clear k9_0 k9_f0 k9_1 k9_f1 k9_2 k9_f2); have k9_0 := k9.cell 0; have k9_f0 := k9.frozen 0; have k9_1 := k9.cell 1; have k9_f1 := k9.frozen 1; have k9_2 := k9.cell 2; have k9_f2 := k9.frozen 2; simp only [List.set_cons_zero, List.set_cons_succ, List.getElem?_cons_zero, List.getElem?_cons_succ] at k9_0 k9_1 k9_2; (try clear lt_k9); have lt_k9 := k9.lt
          replace n3x := n3x.step hy; replace n9 := n9.step hy; replace rOx := rOx.step hy; replace hbw := hbw.step hy
          clear hy hq r1
          go_wp2_with fail
          refine (hW2 _ n9.at_).mono ?_; rintro e y3 ⟨O2, c2, rfl, ow, hy⟩
          have r2 := own_rd ow
          replace k3x := k3x.step hy; (try clear k3x_0 k3x_f0 k3x_1 k3x_f1 k3x_2 k3x_f2); have k3x_0 := k3x.cell 0; have k3x_f0 := k3x.frozen 0; have k3x_1 := k3x.cell 1; have k3x_f1 := k3x.frozen 1; have k3x_2 := k3x.cell 2; have k3x_f2 := k3x.frozen 2; simp only [List.set_cons_zero, List.set_cons_succ, List.getElem?_cons_zero, List.getElem?_cons_succ] at k3x_0 k3x_1 k3x_2; (try clear lt_k3x); have lt_k3x := k3x.lt; replace k9 := k9.step hy; (try clear k9_0 k9_f0 k9_1 k9_f1 k9_2 k9_f2); have k9_0 := k9.cell 0; have k9_f0 := k9.frozen 0; have k9_1 := k9.cell 1; have k9_f1 := k9.frozen 1; have k9_2 := k9.cell 2; have k9_f2 := k9.frozen 2; simp only [List.set_cons_zero, List.set_cons_succ, List.getElem?_cons_zero, List.getElem?_cons_succ] at k9_0 k9_1 k9_2; (try clear lt_k9); have lt_k9 := k9.lt
          replace n3x := n3x.step hy; replace n9 := n9.step hy; replace rOx := rOx.step hy; replace hbw := hbw.step hy
          clear hy ow hW2
          go_wp2_with fail
          refine (hI O2 c2 _ r2 rOx).mono ?_; rintro e y4 ⟨rfl, hq⟩
          have hy := qt_below hq
          replace k3x := k3x.step hy; (try clear k3x_0 k3x_f0 k3x_1 k3x_f1 k3x_2 k3x_f2); have k3x_0 := k3x.cell 0; have k3x_f0 := k3x.frozen 0; have k3x_1 := k3x.cell 1; have k3x_f1 := k3x.frozen 1; have k3x_2 := k3x.cell 2; have k3x_f2 := k3x.frozen 2; simp only [List.set_cons_zero, List.set_cons_succ, List.getElem?_cons_zero, List.getElem?_cons_succ] at k3x_0 k3x_1 k3x_2; (try clear lt_k3x); have lt_k3x := k3x.lt; replace k9 := k9.step hy; (try clear k9_0 k9_f0 k9_1 k9_f1 k9_2 k9_f2); have k9_0 := k9.cell 0; have k9_f0 := k9.frozen 0; have k9_1 := k9.cell 1; have k9_f1 := k9.frozen 1; have k9_2 := k9.cell 2; have k9_f2 := k9.frozen 2; simp only [List.set_cons_zero, List.set_cons_succ, List.getElem?_cons_zero, List.getElem?_cons_succ] at k9_0 k9_1 k9_2; (try clear lt_k9); have lt_k9 := k9.lt
          replace n3x := n3x.step hy; replace n9 := n9.step hy; replace hbw := hbw.step hy
          clear hy hq r2 rOx hI
          go_wp2_with fail
          refine (hS _ n9.at_ n3x).mono ?_; rintro e y5 ⟨rfl, hy⟩
          replace hbw := hbw.step hy
          (try clear k3x_0 k3x_f0 k3x_1 k3x_f1 k3x_2 k3x_f2 lt_k3x) ; (try clear k9_0 k9_f0 k9_1 k9_f1 k9_2 k9_f2 lt_k9)
          clear hy hS k3x k9 n9 n3x
          go_wp2_with fail
          refine (awake04_any _).mono ?_; rintro e y6 ⟨rfl, hy⟩
          replace hbw := hbw.step hy
          go_wp2
          go_ret
          exact ⟨rfl, hbw⟩
        · have hjw : j < wl.length := by omega
          have i3 : (j : Int) < (wl.length : Int) := by omega
          have hG1 := HGr.out
          have er : r = wl[j] :: (wl.drop (j + 1) ++ wl.take j) := by rw [Hr.out, List.drop_eq_getElem_cons hjw]; rfl
          obtain ⟨ad, rfl, hadb, hcj⟩ := rO.at_ (k := j) (by simpa using hjw)
          have hcj2 : (ints (nI wl))[j]'(by simpa using hjw) = .int .i64 ((wl[j] : Nat) : Int) := by simp
          rw [hcj2] at hcj
          have hF := fun W h => chain_Front_at (csV A9 B9 C9 a9 b9 c9 (one r).ns.length (one r).hs.length (one r).ts.length) (one r) W (one_lens r).1 (one_lens r).2.1 (one_lens r).2.2 h 0
          have hT := fun W h => chain_Turn_any (csV A9 B9 C9 a9 b9 c9 (one r).ns.length (one r).hs.length (one r).ts.length) (one r) 0 W (one_lens r).1 (one_lens r).2.1 (one_lens r).2.2 h
          have hfr : cFront (one r) 0 = ((wl[j] : Nat) : Int) := by
            have h := hG1.front (i := 0) (by simp)
            simp only [List.getElem_cons_zero] at h
            rw [show cFront (one r) 0 = cFront (laid 64 [r]) ((0 : Nat) : Int) from rfl, h, er]; rfl
          rw [hfr] at hF
          obtain ⟨hT1, hT2⟩ := hG1.turn (i := 0) (by simp)
          simp only [List.getElem_cons_zero, List.set_cons_zero] at hT1 hT2
          obtain ⟨r', hr'⟩ : ∃ r', r' = r.tail ++ r.take 1 := ⟨_, rfl⟩
          rw [← hr'] at hT1 hT2
          rw [show cTurn (one r) 0 = one r' from hT1] at hT
          have HR2 := hide (show r' = wl.drop (j + 1) ++ wl.take (j + 1) by
            rw [hr', er, List.take_succ_eq_append_getElem hjw]
            simp)
          have HG2 := hide hT2
          clear hT1 hT2 hr' er hG1 hcj2 hfr Hr HGr
          generalize wl[j] = v at *
          have cq : ∀ d os, (grow (redrawn wr d) os).cell? (ad.add j) = some (.int .i64 (v : Int)) := fun d os => ((hbx.step (below_regrown wr d os)).cell (p := ad.add j) (by rw [add_block]; omega)).trans hcj
          have bv : ((v : Int) != (v : Int)) = false := by simp
          go_upto_region 18 with fail
          refine wp_region_m [(1, only (.int .i64 (v : Int)))] (by kernel_rfl) (by kernel_rfl) (by kernel_rfl) (by kernel_rfl) (sts_cons (sts_only _) sts_nil) (fun kq => ?_); (try dsimp only [List.append])
          (refine wpM_load _ 30 _ rfl rfl _ 0 rfl ((csC A9 B9 C9 a9 b9 c9 (one r).ns.length (one r).hs.length (one r).ts.length)) (fun x hx => by obtain ⟨px, rfl⟩ := hx; exact (k9.step (below_regrown _ _ _)).range 0 _ rfl) _ Try.underlying30 rfl (by kernel_rfl) (later_some _) (by kernel_rfl) (by kernel_rfl) ?_; intro K hK; go_big_quiet_op; refine hK _ ?_; clear hK K)
          (refine wpM_only _ (.int .i64 (v : Int)) (by kernel_rfl) (by kernel_rfl) rfl (later_some _) ?_ ?_; (focus (intro x hx hk; obtain ⟨px, rfl⟩ := hx; go_simp; (first | with_reducible refine mUpon_enter ?_ | with_reducible refine mUpon_value ?_); go_at_call 29; exact (hF _ (n9.at_.step (below_regrown wr _ _))).mo)); intro K hK; go_big_quiet_op; refine hK _ ?_; clear hK K)
          (repeat (refine wpM_via (by kernel_rfl) ?_; go_big_quiet_step (fail); refine wpQuiet_nil ?_))
          refine wpM_nil ?_; intro wq hwq hfq; have hbq := below_of_class hwq; clear hwq kq; (try dsimp only [List.drop])
          replace k9 := k9.step hbq; replace n9 := n9.step hbq
          replace hbx : Below wm.heap.size wm wq := hbx.step hbq
          clear hfq cq hF hbq
          go_wp2_with (first | (refine wpList_load_row rfl 30 _ rfl _ rfl _ _ (0, 0) _ k9 Try.underlying30 rfl (by kernel_rfl) ?_))
          refine (hT _ n9.at_).mono ?_; rintro e y1 ⟨_, rfl, hn, hy⟩
          obtain ⟨D1, D2, D3, d1, d2, d3, rfl, hq⟩ := hn
          have nn9 : CsNew 0 y1 (csV D1 D2 D3 d1 d2 d3 (one r').ns.length (one r').hs.length (one r').ts.length) (one r') := CsNew.mono ⟨D1, D2, D3, d1, d2, d3, rfl, hq⟩ (Nat.zero_le _)
          replace k9 := k9.step hy
          replace hbx := hbx.step hy
          clear hq hy n9 hT
          go_wp2_with (first | (refine wpList_store_row rfl 30 _ _ rfl _ (csC D1 D2 D3 d1 d2 d3 (one r').ns.length (one r').hs.length (one r').ts.length).toArray rfl rfl _ _ k9 (by kernel_rfl) (by kernel_rfl) (by kernel_rfl) ?_))
          go_roundw
          case rel => exact ⟨j + 1, r', by rw [Int.natCast_add]; rfl, by omega, HR2, HG2, ⟨D1, D2, D3, d1, d2, d3, k9.row _, nn9.row k9 (by decide) (by decide) _⟩, setRow_below hbx (Nat.le_refl _) _⟩
          case measure => simp; omega
    · have hil : i < l.length := by omega
      have i2 : (i : Int) < (l.length : Int) := by omega
      have hbx := hbl _ (List.getElem_mem hil)
      obtain ⟨ad, rfl, hadb, hc⟩ := hA2.at_ (k := i) (by simpa using hil)
      rw [List.getElem_map] at hc
      generalize l[i] = x at *
      have hm : x.tmod 64 = x % 64 := Int.tmod_eq_emod_of_nonneg hbx.1
      obtain ⟨a, ha⟩ : ∃ a : Nat, x % 64 = (a : Int) := ⟨(x % 64).toNat, by omega⟩
      have ha64 : a < 64 := by omega
      have wx : IntKind.u8.wrap (x % 64) = x % 64 := by rw [IntKind.wrap_u8]; omega
      have wa : IntKind.i64.wrap (a : Int) = a := IntWalk.i64_in _ (by omega)
      obtain ⟨st', E, hst, hE⟩ : ∃ wl' E, cPush (one wl) 0 a = (one wl', E) ∧ ((E = 13 ∧ wl' = wl) ∨ (E = 0 ∧ wl' = wl ++ [a] ∧ Good 64 [wl ++ [a]])) := by
        rcases one_push HG.out ha64 with h | ⟨h, h2⟩
        · exact ⟨wl, 13, h, .inl ⟨rfl, rfl⟩⟩
        · exact ⟨wl ++ [a], 0, h, .inr ⟨rfl, rfl, h2⟩⟩
      have HE := hide hE
      have hP := fun V W h => chain_Push_any V (one wl) 0 a W (one_lens wl).1 (one_lens wl).2.1 (one_lens wl).2.2 h
      rw [hst] at hP
      clear hst hE
      obtain ⟨A3, B3, C3, a3, b3, c3, k3, n3⟩ := s3
      have l3' := k3.lt
      have cq : ∀ d os, (grow (redrawn wr d) os).cell? (ad.add i) = some (.int .u8 x) := fun d os => ((hbr.then_ (below_regrown wr d os) (by omega)).cell (p := ad.add i) (by rw [add_block]; omega)).trans hc
      have l3 := k3.lt
      go_upto_region 10 with fail
      refine wp_region_ml 12 10 [(7, CsT wr.heap.size (one st') E), (11, NewBk wr.heap.size 30 (csC none none none 0 0 0 0 0 0))] (by kernel_rfl) (by kernel_rfl) (by kernel_rfl) (by kernel_rfl) (by kernel_rfl) (sts_cons (sts_csT _ _ _) (sts_cons (sts_newBk _ _ _) sts_nil)) (fun _ d _ _ _ h => by cases d <;> exact h) (fun kq => ?_); (try dsimp only [List.append, lateL, lateOp, List.getElem?_cons_succ, List.getElem?_cons_zero, List.set_cons_succ, List.set_cons_zero, List.take])
      (refine wpM_load _ 30 _ rfl rfl _ 0 rfl ((csC A3 B3 C3 a3 b3 c3 (one wl).ns.length (one wl).hs.length (one wl).ts.length)) (fun x hx => by obtain ⟨px, rfl⟩ := hx; exact (k3.step (below_regrown _ _ _)).range 0 _ rfl) _ Try.underlying30 rfl (by kernel_rfl) (later_some _) (by kernel_rfl) (by kernel_rfl) ?_; intro K hK; go_big_quiet_op; refine hK _ ?_; clear hK K)
      iterate 6 (refine wpM_via (by kernel_rfl) ?_; go_big_quiet_step (fail); refine wpQuiet_nil ?_)
      (refine wpM_spec _ (CsT wr.heap.size (one st') E) (by kernel_rfl) (by kernel_rfl) rfl (later_some _) ?_ ?_; (focus (intro x hx hk; obtain ⟨px, rfl⟩ := hx; go_simp; (first | with_reducible refine mUpon_enter ?_ | with_reducible refine mUpon_value ?_); go_at_call 10; exact Calls.mcsT (below_regrown wr px.d px.os).size (hP _ _ (n3.at_.step (below_regrown wr _ _))))); intro v hv K hK; obtain ⟨A7, B7, C7, a7, b7, c7, rfl⟩ := hv; go_big_quiet_op; refine hK _ ?_; clear hK K)
      iterate 3 (refine wpM_via (by kernel_rfl) ?_; go_big_quiet_step (fail); refine wpQuiet_nil ?_)
      (refine wpM_spec _ (NewBk wr.heap.size 30 (csC none none none 0 0 0 0 0 0)) (by kernel_rfl) (by kernel_rfl) rfl (later_some _) ?_ ?_; (focus (intro x hx hk; obtain ⟨px, rfl⟩ := hx; go_simp; (first | with_reducible refine mUpon_enter ?_ | with_reducible refine mUpon_value ?_); exact newBk_new (by simp [Go.Sort.grow]) rfl (by simp [Go.Sort.grow, redrawn]))); intro v hv K hK; obtain ⟨g7, rfl, hg7⟩ := hv; go_big_quiet_op; refine hK _ ?_; clear hK K)
      refine wpM_nil ?_; intro wq hwq hfq; have hbq := below_of_class hwq; clear hwq kq; (try dsimp only [List.drop])
      have q7 : Bk wq g7 30 (csC none none none 0 0 0 0 0 0) := newBk_of (base := wr.heap.size) hfq.1
      have n7 : CsNew wr.heap.size wq (csV A7 B7 C7 a7 b7 c7 (one st').ns.length (one st').hs.length (one st').ts.length) (one st') := csT_of hfq.2.1
      clear hfq
      (refine wpList_store_row rfl 30 _ _ rfl _ (csC A7 B7 C7 a7 b7 c7 (one st').ns.length (one st').hs.length (one st').ts.length).toArray rfl rfl _ _ q7 (by kernel_rfl) (by kernel_rfl) (by kernel_rfl) ?_)
      dsimp only [Act.put]
      have k7 := q7.row (csC A7 B7 C7 a7 b7 c7 (one st').ns.length (one st').hs.length (one st').ts.length)
      replace n7 := n7.row q7 (by decide) (by decide) (csC A7 B7 C7 a7 b7 c7 (one st').ns.length (one st').hs.length (one st').ts.length).toArray
      have hy := setRow_below hbq hg7 (csC A7 B7 C7 a7 b7 c7 (one st').ns.length (one st').hs.length (one st').ts.length).toArray
      generalize hV : World.setRow _ _ _ = ws at k7 n7 hy ⊢
      have own' := own_below own hy (Nat.le_refl _)
      have hbs : Below g3 w2 ws := hbr.then_ hy (by omega)
      replace k3 := k3.step hy
      replace hc : ws.cell? (ad.add i) = some (.int .u8 x) := (hbs.cell (p := ad.add i) (by rw [add_block]; omega)).trans hc
      have l7 := k7.lt
      have l3 := k3.lt
      have hg37 : g3 < g7 := by omega
      have hob := own.lt
      have hyz := hy.size
      clear hV hy hbq q7 own hbr cq n3 hP
      rcases HE.out with ⟨rfl, rfl⟩ | ⟨rfl, rfl, hG2⟩
      · go_wp2_with (first | (refine wpList_load_row rfl 30 _ rfl _ rfl _ _ (0, 0) _ k7 Try.underlying30 rfl (by kernel_rfl) ?_) | (refine wpList_store_row rfl 30 _ _ rfl _ (csC A7 B7 C7 a7 b7 c7 (one st').ns.length (one st').hs.length (one st').ts.length).toArray rfl rfl _ _ k3 (by kernel_rfl) (by kernel_rfl) (by kernel_rfl) ?_))
        go_roundw
        case rel =>
          refine ⟨st', i + 1, O, co, rfl, by rw [Int.natCast_add]; rfl, by omega, HG, own_rowfar own' (by omega) _, ⟨A7, B7, C7, a7, b7, c7, k3.row _, (n7.mono (Nat.zero_le _)).row k3 (by decide) (by decide) _⟩, setRow_below hbs (Nat.le_refl _) _⟩
        case measure => simp; omega
      · have hss := hbs.size
        go_upto_region 13 with (at_builtin; refine wpList_app2 rfl (.tmp 40) (.tmp 47) 23 rfl w2.heap.size 3 iT _ 1 8 Try.underlying23 hiT hz0 hz1 hz2 rfl (by omega) O wl.length co (ints (nI wl)) rfl (own'.alloc _) ⟨ws.heap.size, 0, none⟩ 1 1 [.int .i64 (a : Int)] rfl rfl (news_at (cs := [_])) (by simp [Value.oneCell']) (by unfold maxLen; omega) (by omega) (by simp; omega) (by omega) ?_; intro gO co2 w5 own5 hb5 hg5)
        have kk7 : Bk w5 g7 30 (csC A7 B7 C7 a7 b7 c7 (one (wl ++ [a])).ns.length (one (wl ++ [a])).hs.length (one (wl ++ [a])).ts.length) := (k7.alloc (.cells #[.int .i64 (a : Int)] 3)).kept hg5 (fun j hj => by have := hob j hj; omega)
        have kk3 := (k3.alloc (.cells #[.int .i64 (a : Int)] 3)).below hb5 (by omega)
        have nn7 := (n7.step ((Below.refl ws.heap.size ws).alloc1 (.cells #[.int .i64 (a : Int)] 3))).kept hg5 (fun j hj => (hob j hj).2)
        have hb6 : Below g3 w2 w5 := (hbs.alloc (by omega) (.cells #[.int .i64 (a : Int)] 3)).trans (hb5.mono (by omega))
        clear k7 k3 n7 hb5 hg5 hbs own' hc
        go_wp2_with (first | (refine wpList_load_row rfl 30 _ rfl _ rfl _ _ (0, 0) _ kk7 Try.underlying30 rfl (by kernel_rfl) ?_) | (refine wpList_store_row rfl 30 _ _ rfl _ (csC A7 B7 C7 a7 b7 c7 (one (wl ++ [a])).ns.length (one (wl ++ [a])).hs.length (one (wl ++ [a])).ts.length).toArray rfl rfl _ _ kk3 (by kernel_rfl) (by kernel_rfl) (by kernel_rfl) ?_))
        go_roundw
        case rel =>
          refine ⟨wl ++ [a], i + 1, some ⟨gO, 0, none⟩, co2, by rw [List.length_append]; rfl, by rw [Int.natCast_add]; rfl, by simp; omega, hide hG2, ?_, ⟨A7, B7, C7, a7, b7, c7, kk3.row _, (nn7.mono (Nat.zero_le _)).row kk3 (by decide) (by decide) _⟩, setRow_below hb6 (Nat.le_refl _) _⟩
          have e : ints (nI (wl ++ [a])) = ints (nI wl) ++ [.int .i64 (a : Int)] := by simp
          rw [e, List.length_append]; exact own_rowfar own5 (by omega) _
        case measure => simp; omega
end Go.Proofs.Ythicpjfdljgfpaa
