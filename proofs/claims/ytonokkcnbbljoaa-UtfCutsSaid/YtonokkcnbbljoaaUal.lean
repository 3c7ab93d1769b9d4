/- Package utf: All. -/
import Derived.Test.YtonokkcnbbljoaaUof
namespace Go.Proofs.Ytonokkcnbbljoaa
open Go.RowKit Go.Shelf
attribute [local go_sem] Oper.semAt_some
set_option linter.unusedSimpArgs false
set_option linter.unusedVariables false

/-- all characters; none of them, if one is wrong -/
def uAll (s : List UInt8) : List Int := if uBad s then [] else (uScan s).map Prod.fst
theorem info_int : (Try.prog.info? 3).map (fun i => (i.zero, i.size, i.bytes)) = some (some (.int .i64 0), 1, 8) := by kernel_rfl
theorem Boxed.over {W w1 : World} {B Bx : Nat} {tx e : TypeId} {size k : Nat} {u v v' : Value} {xs : List Value} {tmp : Obj} (hx : Boxed W Bx tx u) (hte : tx ≠ e) (hrow : W.ownsRow B e size v k xs)
    (hgrow : (W.alloc tmp).grownBy w1 v.ownBlock) {C : Nat} (hne : Bx ≠ C) : Boxed (w1.setCell ⟨C, 0, none⟩ v') Bx tx u :=
  ((hx.alloc tmp).kept hgrow (hx.not_row hte hrow)).other hne _
set_option maxRecDepth 100000 in
set_option maxHeartbeats 8000000 in
theorem utf_All_any (s : ByteArray) (hs : s.size ≤ 1000000) (w : World) : Calls Try.prog 10 #[.string s] w fun e w' =>
    ∃ v, e = .returned (.tuple #[v, .int .i64 (if uBad s.data.toList then 11 else 0)]) ∧ w'.ownsRow w.heap.size 3 1 v (uAll s.data.toList).length (iCells (uAll s.data.toList)) ∧ Below w.heap.size w w' := by
  obtain ⟨R, hR⟩ : ∃ R : Int, R = if uBad s.data.toList then 11 else 0 := ⟨_, rfl⟩
  rw [← hR]
  replace hR := hide hR
  obtain ⟨L, hL⟩ : ∃ L, L = uAll s.data.toList := ⟨_, rfl⟩
  rw [← hL]
  replace hL := hide hL
  obtain ⟨i0, hi, hz0, hz1, hz2⟩ := info_parts info_int
  refine (callsIn_wide (n := 3)).1 ?_
  refine callsIn_of_wp_marks Try.func10 rfl trivial ?_ rfl
  simp only [Try.ntmps10, List.size_toArray, List.length_cons, List.length_nil, Nat.reduceAdd, Nat.reduceSub, Array.replicate_succ, Array.replicate_zero, List.push_toArray, List.append_toArray, List.nil_append, List.cons_append]
  gi_wp2_with fail
  generalize hV : World.alloc (World.alloc (World.alloc w _) _) _ = w0
  have hb0 : Below w.heap.size w w0 := by subst hV; (repeat (first | with_reducible exact Below.refl _ _ | with_reducible assumption | with_reducible refine Below.drew ?_ | with_reducible refine Below.drewN ?_ _ | with_reducible refine Below.alloc1 ?_ _ | with_reducible refine Below.setCell1 ?_ (by first | omega | (simp; done) | (simp; omega)) _ | with_reducible refine Below.step ?_ (by with_reducible assumption)))
  have k0 : Bk w0 w.heap.size 25 [.slice none 0 0] := by subst hV; exact ((Bk.new w _ [_]).alloc _).alloc _
  have k1 : Bk w0 (w.heap.size + 1) 26 [.int .i64 0] := by subst hV; exact (Bk.new' _ _ [_] _ (by simp)).alloc _
  have k2 : Bk w0 (w.heap.size + 2) 25 [.slice none 0 0] := by subst hV; exact Bk.new' _ _ [_] _ (by simp)
  clear hV
  refine ⟨trivial, (callsIn_wide.2 (utf_all_any s _)).mono ?_⟩; rintro e w1 ⟨rfl, hb1, kB⟩
  have hne2 : w.heap.size + 2 ≠ w0.heap.size := Nat.ne_of_lt k2.lt
  have hne1 : w.heap.size + 1 ≠ w0.heap.size := by have := k2.lt; omega
  have hne0 : w.heap.size ≠ w0.heap.size := by have := k2.lt; omega
  have hBw0 : w.heap.size ≤ w0.heap.size := hb0.size
  replace k0 := k0.step hb1
  replace k1 := k1.step hb1
  replace k2 := k2.step hb1
  replace hb0 := hb0.step hb1
  clear hb1
  generalize w0.heap.size = B at *
  gi_wp2_with fail
  refine wpIn_all rfl rfl s (by unfold maxLen; omega) kB
    (fun r W => ∃ (v : Value) (pre : List Int), Boxed W (w.heap.size + 2) 25 v ∧ W.ownsRow w.heap.size 3 1 v pre.length (iCells pre) ∧ pre ++ (uScan r.data.toList).map Prod.fst = (uScan s.data.toList).map Prod.fst ∧
      uBad r.data.toList = uBad s.data.toList ∧ pre.length + r.size ≤ s.size ∧ Bk W w.heap.size 25 [.slice none 0 0] ∧ Bk W (w.heap.size + 1) 26 [.int .i64 0] ∧ (∃ u, Boxed W B 9 u) ∧ Below w.heap.size w W)
    (fun c W => c = .ret ∧ uBad s.data.toList = true ∧ Bk W w.heap.size 25 [.slice none 0 0] ∧ Bk W (w.heap.size + 1) 26 [.int .i64 11] ∧ Below w.heap.size w W)
    (fun r W1 W2 ⟨v, pre, x, o, e1, e2, e3, k0, k1, ⟨u, ku⟩, b⟩ hb => ⟨v, pre, (show Bk W1 _ _ [v] from x).step hb, own_below o hb (Nat.le_refl _), e1, e2, e3, k0.step hb, k1.step hb, ⟨u, (show Bk W1 _ _ [u] from ku).step hb⟩, b.step hb⟩)
    (fun r W1 q ⟨v, pre, x, o, e1, e2, e3, k0, k1, ⟨u, ku⟩, b⟩ => ⟨v, pre, x.other hne2 q, o.kept (grownBy_setCell' W1 B q) (.inr (ku.not_row (by decide) o).symm), e1, e2, e3, k0.far hne0 q, k1.far hne1 q, ⟨q, ku.set q⟩, b.setCell1 hBw0 q⟩)
    (fun r W l o o' ⟨v, pre, x, ow, e1, e2, e3, k0, k1, ⟨u, ku⟩, b⟩ hl h ho => ⟨v, pre, (show Bk W _ _ [v] from x).put o' h ho, ownsRow_putObj ow o' h ho, e1, e2, e3, k0.put o' h ho, k1.put o' h ho, ⟨u, (show Bk W _ _ [u] from ku).put o' h ho⟩, below_put b o' (Nat.le_trans hb0.size hl)⟩)
    (fun c W l o o' ⟨e1, e, k0, k1, b⟩ hl h ho => ⟨e1, e, k0.put o' h ho, k1.put o' h ho, below_put b o' (Nat.le_trans hb0.size hl)⟩)
    ⟨.slice none 0 0, [], k2, World.ownsRow_nil .., rfl, rfl, by simp, k0, k1, ⟨_, kB⟩, hb0⟩ _ (fun l c m W K hK => by gi_wp2; exact hK) ?body ?done ?stop
  case body =>
    rintro l r c m W hr hrz hu ⟨v, pre, hx, hown, e1, e2, e3, k0, k1, ⟨u, ku⟩, b⟩ kr
    have k0_0 := k0.cell 0; have k0_f0 := k0.frozen 0; simp only [List.set_cons_zero, List.set_cons_succ, List.getElem?_cons_zero, List.getElem?_cons_succ] at k0_0; have lt_k0 := k0.lt; have k1_0 := k1.cell 0; have k1_f0 := k1.frozen 0; simp only [List.set_cons_zero, List.set_cons_succ, List.getElem?_cons_zero, List.getElem?_cons_succ] at k1_0; have lt_k1 := k1.lt
    have hE := uBad_cons r.data.toList (list_ne r hrz)
    rw [hu] at hE
    dsimp only at hE
    rw [e2] at hE
    have HE := hide hE
    have HS := uScan_cons r.data.toList (list_ne r hrz)
    rw [hu] at HS
    dsimp only at HS
    rw [HS] at e1
    have hsz := nx_size r
    have hm1 := (uNext_size r.data.toList).2.1 (list_ne r hrz)
    have hm2 := (uNext_size r.data.toList).1
    rw [hu] at hsz hm1 hm2
    rw [list_size] at hm2
    dsimp only at hsz hm1 hm2
    have E1 := hide e1
    have E3 := hide e3
    have HZ := hide hsz
    have HN := hide (nx_list r)
    rw [hu] at HN
    dsimp only at HN
    have hpl : pre.length + 1 ≤ 1000000 := by omega
    replace hpl := hide hpl
    clear hE e1 e2 e3 HS hsz hu
    by_cases hc : c = -1
    · subst hc
      gi_wp2
      refine ⟨(KeepsOthers.setCell _ _ _).trans (KeepsOthers.setCell _ _ _), rfl, by rw [HE.out]; rfl, ?_, ?_, ?_⟩
      · exact (k0.set_ 0 _).far (by simp) _
      · exact (k1.far (by simp) _).set_ 0 _
      · exact (b.setCell1 (Nat.le_refl _) _).setCell1 (by simp) _
    · have hcf : ((c == -1) : Bool) = false := by simp [hc]
      have hcx := hx.cell
      have hfx := hx.frozen
      gi_wp2_with (gi_at_builtin; refine wpListIn_append_own _ rfl _ _ 25 rfl w.heap.size 3 i0 (.int .i64 0) 1 8 Try.underlying25 hi hz0 hz1 hz2 rfl (by decide) _ _ _ rfl (hown.alloc _) ⟨W.heap.size, 0, none⟩ 1 1 [.int .i64 c] rfl rfl (cell_one_new _ _ _) (by simp [Value.oneCell']) (by have := hpl.out; unfold maxLen; omega) (by have := hpl.out; omega) (by have := b.size; simp; omega) ?_; intro v' w1 hown' hgrow _; obtain ⟨g', cap', rfl⟩ := ownsRow_succ hown'; obtain ⟨hv1, hv2, hr2, hk2, hb2⟩ := hx.appended (by decide) hown b.size (by omega) hown' hgrow; have hc1 := hv1.cell; have hf1 := hv1.frozen)
      refine ⟨hk2, Boxed.over (show Boxed W B _ _ from kr) (by decide) hown hgrow (Ne.symm hne2), _, pre ++ [c], hv2, ?_, ?_, ?_, ?_, Boxed.over (show Boxed W _ _ _ from k0) (by decide) hown hgrow (by omega), Boxed.over (show Boxed W _ _ _ from k1) (by decide) hown hgrow (by omega), ⟨_, Boxed.over ku (by decide) hown hgrow (Ne.symm hne2)⟩, b.trans hb2⟩
      · rw [List.length_append]; unfold iCells; rw [List.map_append]; exact hr2
      · rw [HN.out, List.append_assoc]; exact E1.out
      · rw [HN.out, HE.out, hcf]; rfl
      · rw [HZ.out, List.length_append, List.length_singleton]; have := E3.out; omega
  case done =>
    rintro D r W hD hz ⟨v, pre, hx, hown, e1, e2, e3, k0, k1, ⟨u, ku⟩, b⟩ hK
    rw [size_list0 r hz, uScan_nil, List.map_nil, List.append_nil] at e1
    rw [size_list0 r hz, uBad_nil] at e2
    have hL2 := hide (show L = pre by rw [hL.out, uAll, ← e2, if_neg (by simp), e1])
    have hR2 := hide (show R = 0 by rw [hR.out, ← e2]; rfl)
    clear e1 e2 e3 hL hR
    have k0_0 := k0.cell 0; have k0_f0 := k0.frozen 0; simp only [List.set_cons_zero, List.set_cons_succ, List.getElem?_cons_zero, List.getElem?_cons_succ] at k0_0; have lt_k0 := k0.lt; have k1_0 := k1.cell 0; have k1_f0 := k1.frozen 0; simp only [List.set_cons_zero, List.set_cons_succ, List.getElem?_cons_zero, List.getElem?_cons_succ] at k1_0; have lt_k1 := k1.lt
    have hcx := hx.cell
    have hfx := hx.frozen
    obtain ⟨A, c, rfl⟩ := own_form hown
    gi_wp2
    generalize hV : World.setCell (World.setCell W _ _) _ _ = W2
    have hK2 : W2.heap[D]? = some (.deferred (some [])) := by
      subst hV
      exact ((KeepsOthers.setCell _ _ _).trans (KeepsOthers.setCell _ _ _)).same D _ hK rfl
    have q0 : Bk W2 w.heap.size 25 [.slice A pre.length c] := by subst hV; exact (k0.set_ 0 _).far (by simp) _
    have q1 : Bk W2 (w.heap.size + 1) 26 [.int .i64 0] := by subst hV; exact (k1.far (by simp) _).set_ 0 _
    have hb2 : Below w.heap.size w W2 := by subst hV; exact (b.setCell1 (Nat.le_refl _) _).setCell1 (by simp) _
    have ho2 : W2.ownsRow w.heap.size 3 1 (.slice A pre.length c) pre.length (iCells pre) := by
      subst hV
      have h1 := hown.kept (grownBy_setCell' W w.heap.size (.slice A pre.length c)) (.inr ((show Boxed W _ _ _ from k0).not_row (by decide) hown).symm)
      have k1' := k1.far (p := ⟨w.heap.size, 0, none⟩) (by simp) (.slice A pre.length c)
      exact h1.kept (grownBy_setCell' _ (w.heap.size + 1) (.int .i64 0)) (.inr ((show Boxed _ _ _ _ from k1').not_row (by decide) h1).symm)
    clear hV
    refine ⟨by simp, .inl ⟨_, _, rfl, run_takeDeferred hK2, ?_⟩⟩
    have k2_0 := (q0.put (.deferred none) hK2 rfl).cell 0
    have k3_0 := (q1.put (.deferred none) hK2 rfl).cell 0
    refine ⟨.tuple #[.slice A pre.length c, .int .i64 0], ?_, _, by rw [hR2.out], by rw [hL2.out]; exact ownsRow_putObj ho2 _ hK2 rfl, below_put hb2 _ (Nat.le_trans hb0.size hD)⟩
    simp [results, Try.f10, go_sem, k2_0, k3_0]
  case stop =>
    rintro D c W hD ⟨rfl, e, k0, k1, b⟩ hK
    have hL2 := hide (show L = [] by rw [hL.out, uAll, if_pos e])
    have hR2 := hide (show R = 11 by rw [hR.out, if_pos e])
    clear e hL hR
    gi_wp2
    have k2 := k0.put (.deferred none) hK rfl
    have k3 := k1.put (.deferred none) hK rfl
    refine ⟨by simp, .inl ⟨_, _, rfl, run_takeDeferred hK, ?_⟩⟩
    have k2_0 := k2.cell 0
    have k3_0 := k3.cell 0
    refine ⟨.tuple #[.slice none 0 0, .int .i64 11], ?_, _, by rw [hR2.out], by rw [hL2.out]; exact World.ownsRow_nil .., below_put b _ (Nat.le_trans hb0.size hD)⟩
    simp [results, Try.f10, go_sem, k2_0, k3_0]
end Go.Proofs.Ytonokkcnbbljoaa
