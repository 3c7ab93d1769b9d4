import Derived.Test.YthicpjfdljgfpaaRef04i
import Derived.Test.YthicpjfdljgfpaaRel4
import Derived.Deep.Upon
/- Package callboyref04: all. -/
namespace Go.Proofs.Ythicpjfdljgfpaa
open Go.RowKit Go.Sort
set_option linter.unusedSimpArgs false
set_option linter.unusedVariables false

/-- a row of one's own, of numbers -/
structure Rw where
  A : Option Addr
  c : Nat
abbrev rwV (r : Rw) (l : List Nat) : Value := .slice r.A l.length r.c
/-- rows of one's own, each in its own block -/
structure Rws (w : World) (b : Nat) (rs : List Rw) (L : List (List Nat)) : Prop where
  len : rs.length = L.length
  own : ∀ i (h : i < L.length) (h' : i < rs.length), w.ownsRow b 3 1 (rwV rs[i] L[i]) L[i].length (ints (nI L[i]))
  ap : ∀ i j (h : i < rs.length) (h' : j < rs.length), i ≠ j → ∀ g g', rs[i].A = some g → rs[j].A = some g' → g.block ≠ g'.block
def rwR (rs : List Rw) (L : List (List Nat)) : List Value := List.zipWith rwV rs L
theorem rwR_len {rs : List Rw} {L : List (List Nat)} (h : rs.length = L.length) : (rwR rs L).length = L.length := by simp [rwR, h]
theorem rwR_snoc {rs : List Rw} {L : List (List Nat)} (h : rs.length = L.length) (r : Rw) (l : List Nat) : rwR (rs ++ [r]) (L ++ [l]) = rwR rs L ++ [rwV r l] := by
  unfold rwR
  rw [List.zipWith_append h]; rfl
theorem Rws.step {w w' : World} {b : Nat} {rs : List Rw} {L : List (List Nat)} (h : Rws w b rs L) (hb : Below w.heap.size w w') : Rws w' b rs L :=
  ⟨h.len, fun i h1 h2 => own_below (h.own i h1 h2) hb (Nat.le_refl _), h.ap⟩
theorem Rws.kept {w w' : World} {b : Nat} {rs : List Rw} {L : List (List Nat)} {row : Option Nat} (h : Rws w b rs L) (hg : w.grownBy w' row) (hr : ∀ i (h : i < rs.length) ad, rs[i].A = some ad → row ≠ some ad.block) : Rws w' b rs L :=
  ⟨h.len, fun i h1 h2 => own_kept (h.own i h1 h2) hg (fun ad e => hr i h2 ad e), h.ap⟩
theorem Rws.snoc {w w' : World} {b : Nat} {rs : List Rw} {L : List (List Nat)} (h : Rws w b rs L) (hb : Below w.heap.size w w') {r : Rw} {l : List Nat} (ho : w'.ownsRow w.heap.size 3 1 (rwV r l) l.length (ints (nI l))) (hbs : b ≤ w.heap.size) : Rws w' b (rs ++ [r]) (L ++ [l]) := by
  have hk := h.step hb
  have hlt : ∀ i (h1 : i < rs.length) ad, rs[i].A = some ad → ad.block < w.heap.size := fun i h1 ad e => (own_blk (h.own i (by rw [← h.len]; exact h1) h1) ad e).2
  have hge : ∀ ad, r.A = some ad → w.heap.size ≤ ad.block := fun ad e => (own_blk ho ad e).1
  refine ⟨by simp [h.len], fun i h1 h2 => ?_, fun i j h1 h2 hij g g' e e' => ?_⟩
  · by_cases hi : i < L.length
    · have hi2 : i < rs.length := by rw [h.len]; exact hi
      have := hk.own i hi hi2
      simp only [List.getElem_append_left hi, List.getElem_append_left hi2]
      exact this
    · have hi3 : i = L.length := by simp at h1; omega
      have e1 : (L ++ [l])[i] = l := by simp [hi3]
      have e2 : (rs ++ [r])[i] = r := by simp [hi3, ← h.len]
      rw [e1, e2]
      exact own_mono ho hbs
  · simp at h1 h2
    by_cases hi : i < rs.length <;> by_cases hj : j < rs.length
    · rw [List.getElem_append_left hi] at e
      rw [List.getElem_append_left hj] at e'
      exact h.ap i j hi hj hij g g' e e'
    · have hj3 : j = rs.length := by omega
      rw [List.getElem_append_left hi] at e
      have e2 : (rs ++ [r])[j] = r := by simp [hj3]
      rw [e2] at e'
      have a1 := hlt i hi g e
      have a2 := hge g' e'
      omega
    · have hi3 : i = rs.length := by omega
      rw [List.getElem_append_left hj] at e'
      have e2 : (rs ++ [r])[i] = r := by simp [hi3]
      rw [e2] at e
      have a1 := hlt j hj g' e'
      have a2 := hge g e
      omega
    · omega
theorem range_map_take {α : Type} (f : Nat → α) (n i : Nat) (h : i < n) : ((List.range n).map f).take (i + 1) = ((List.range n).map f).take i ++ [f i] := by
  rw [List.take_succ_eq_append_getElem (by simpa using h)]; simp
set_option maxRecDepth 100000 in
set_option maxHeartbeats 8000000 in
theorem r04_all_any (V : Value) (st : Ch) (w : World) (h1 : st.ns.length ≤ 1000) (h2 : st.hs.length ≤ 1000) (hb : ∀ x ∈ st.ns, -1 ≤ x.n ∧ x.n ≤ (st.ns.length : Int) - 1) (hh : ∀ x ∈ st.hs, -1 ≤ x ∧ x ≤ (st.ns.length : Int) - 1) (h : CsAt w V st) :
    Calls Try.prog 40 #[V] w fun e w' => ∃ O co rs, e = .returned (.slice O st.hs.length co) ∧ w'.ownsRow w.heap.size 23 1 (.slice O st.hs.length co) st.hs.length (rwR rs (lists st)) ∧ Rws w' w.heap.size rs (lists st) ∧ Below w.heap.size w w' := by
  obtain ⟨A, B, C, a, b, c, rfl, rA, rB, rC⟩ := h
  obtain ⟨iT, hiT, hz0, hz1, hz2⟩ := info_parts islice_info
  have hW := fun (i : Nat) (hi : i < st.hs.length) (W : World) r r' => r04_walk_any A B C a b c st i W hi h1 h2 hb hh r r'
  have HWK := hide hW
  clear hW hb hh
  go_enter Try.func40, Try.ntmps40
  go_upto_region 3 with fail
  generalize hV : World.alloc w _ = w1
  have hb1 : Below w.heap.size w w1 := by subst hV; (repeat (first | with_reducible exact Below.refl _ _ | with_reducible assumption | with_reducible refine Below.drew ?_ | with_reducible refine Below.drewN ?_ _ | with_reducible refine Below.alloc1 ?_ _ | with_reducible refine Below.setCell1 ?_ (by first | omega | (simp; done) | (simp; omega)) _ | with_reducible refine Below.step ?_ (by with_reducible assumption)))
  have k0 : Bk w1 w.heap.size 25 (csC A B C a b c st.ns.length st.hs.length st.ts.length) := by subst hV; (repeat (first | with_reducible exact Bk.new' _ _ _ _ (by simp; done) | with_reducible assumption | with_reducible refine Bk.alloc ?_ _ | with_reducible refine Bk.drew ?_ | with_reducible refine Bk.drewN ?_ _ | with_reducible refine Bk.step ?_ (by with_reducible assumption) | with_reducible refine Bk.far ?_ (by first | omega | (simp; done) | (simp; omega)) _))
  clear hV
  have l0 := k0.lt
  go_loopw [3, 4] (fun ov v wr => ∃ (i : Nat) (O : Option Addr) (co : Nat) (rs : List Rw), v = .int .i64 i ∧ ov = .slice O i co ∧ i ≤ st.hs.length ∧ wr.ownsRow (w.heap.size + 1) 23 1 (.slice O i co) i (rwR rs ((lists st).take i)) ∧ Rws wr (w.heap.size + 1) rs ((lists st).take i) ∧ Bk wr w.heap.size 25 (csC A B C a b c st.ns.length st.hs.length st.ts.length) ∧ Below w.heap.size w wr) (fun _ v _ => match v with | .int _ k => st.hs.length - k.toNat | _ => 0)
  case atStart => exact ⟨0, none, 0, [], rfl, rfl, by omega, World.ownsRow_nil _ _ _ _, ⟨rfl, fun i h => by simp at h, fun i j h => by simp at h⟩, k0, hb1⟩
  case round =>
    clear k0 hb1 l0
    obtain ⟨i, O, co, rs, rfl, rfl, hi, own, R, kS, hb⟩ := hrel
    have lS := kS.lt
    have kS_0 := kS.cell 0; have kS_f0 := kS.frozen 0; have kS_1 := kS.cell 1; have kS_f1 := kS.frozen 1; have kS_2 := kS.cell 2; have kS_f2 := kS.frozen 2; simp only [List.set_cons_zero, List.set_cons_succ, List.getElem?_cons_zero, List.getElem?_cons_succ] at kS_0 kS_1 kS_2; have lt_kS := kS.lt
    by_cases hin : i = st.hs.length
    · subst hin
      rw [List.take_of_length_le (by rw [lists_len]; omega)] at own R
      go_wp2
      go_ret
      exact ⟨O, co, rs, rfl, own_mono own (by omega), ⟨R.len, fun i x y => own_mono (R.own i x y) (by omega), R.ap⟩, hb⟩
    · have hil : i < st.hs.length := by omega
      have hii : (i : Int) < (st.hs.length : Int) := by omega
      have HT := hide (show (lists st).take (i + 1) = (lists st).take i ++ [cWalk st i] from range_map_take (cWalk st) st.hs.length i hil)
      have hWi := HWK.out i hil
      generalize (lists st).take i = Li at *
      generalize cWalk st i = l at *
      go_wp2_with fail
      refine (hWi _ ((rA.below hb).more hb.size) ((rB.below hb).more hb.size)).mono ?_; rintro e w2 ⟨Q, cq, rfl, ow, hy⟩
      have R2 : Rws w2 (w.heap.size + 1) (rs ++ [⟨Q, cq⟩]) (Li ++ [l]) := R.snoc hy (r := ⟨Q, cq⟩) ow (by omega)
      have bO := own_ty own
      replace own := own_below own hy (Nat.le_refl _)
      replace kS := kS.step hy; (try clear kS_0 kS_f0 kS_1 kS_f1 kS_2 kS_f2); have kS_0 := kS.cell 0; have kS_f0 := kS.frozen 0; have kS_1 := kS.cell 1; have kS_f1 := kS.frozen 1; have kS_2 := kS.cell 2; have kS_f2 := kS.frozen 2; simp only [List.set_cons_zero, List.set_cons_succ, List.getElem?_cons_zero, List.getElem?_cons_succ] at kS_0 kS_1 kS_2; (try clear lt_kS); have lt_kS := kS.lt
      replace hb := hb.step hy
      have lS2 := hb.size
      clear hy ow R
      have hne : ∀ j (h : j < (rs ++ [(⟨Q, cq⟩ : Rw)]).length) ad, (rs ++ [(⟨Q, cq⟩ : Rw)])[j].A = some ad → (Value.slice O i co).ownBlock ≠ some ad.block := fun j hj ad e e2 => by
        have hj2 : j < (Li ++ [l]).length := by rw [← R2.len]; exact hj
        obtain ⟨cs, fr, hx⟩ := own_ty (R2.own j hj2 hj) ad e
        rw [ownB] at e2
        cases O with
        | none => cases e2
        | some o =>
          obtain ⟨cs2, fr2, hx2⟩ := own_ty own o rfl
          simp at e2
          rw [e2, hx] at hx2
          injection hx2 with hx2
          injection hx2 with _ hx2 _
          exact absurd hx2 (by decide)
      clear bO
      go_wp2_with (at_builtin; refine wpList_app2 rfl (.tmp 12) (.tmp 16) 70 rfl (w.heap.size + 1) 23 iT _ 1 24 Try.underlying70 hiT hz0 hz1 hz2 rfl (by omega) O i co (rwR rs Li) rfl (own.alloc _) ⟨w2.heap.size, 0, none⟩ 1 1 [.slice Q l.length cq] rfl rfl (news_at (cs := [_])) (by simp [Value.oneCell']) (by unfold maxLen; omega) (by omega) (by simp; omega) (by omega) ?_; intro gO co2 w5 own5 hb5 hg5)
      have R3 : Rws w5 (w.heap.size + 1) (rs ++ [⟨Q, cq⟩]) (Li ++ [l]) := (R2.step ((Below.refl w2.heap.size w2).alloc1 (.cells #[.slice Q l.length cq] 23))).kept hg5 hne
      have kS5 := (kS.alloc (.cells #[.slice Q l.length cq] 23)).below hb5 (by omega)
      go_roundw
      case rel =>
        refine ⟨i + 1, some ⟨gO, 0, none⟩, co2, rs ++ [⟨Q, cq⟩], by rw [Int.natCast_add]; rfl, rfl, by omega, ?_, by rw [HT.out]; exact R3, kS5, (hb.alloc (by omega) (.cells #[.slice Q l.length cq] 23)).trans (hb5.mono (by omega))⟩
        rw [HT.out, rwR_snoc (by have := R2.len; simp at this; exact this)]
        exact own5
      case measure => simp; omega
end Go.Proofs.Ythicpjfdljgfpaa

/- Package callboyref04: Push. -/
namespace Go.Proofs.Ythicpjfdljgfpaa
open Go.RowKit Go.Sort
set_option linter.unusedSimpArgs false
set_option linter.unusedVariables false

/-- rows of numbers, the i-th in vs; each of one's own -/
structure Rx (w : World) (gO : Nat) (pad vs : List Value) (L : List (List Nat)) : Prop where
  len : vs.length = L.length
  bk : Bk w gO 23 (vs ++ pad)
  own : ∀ j (h : j < L.length), ∃ A c b, vs[j]? = some (.slice A L[j].length c) ∧ w.ownsRow b 3 1 (.slice A L[j].length c) L[j].length (ints (nI L[j]))
theorem rwR_at {rs : List Rw} {L : List (List Nat)} {j : Nat} (h : j < L.length) (h' : j < rs.length) : (rwR rs L)[j]? = some (rwV rs[j] L[j]) := by
  rw [List.getElem?_eq_getElem (by simp [rwR]; omega)]
  simp [rwR, List.getElem_zipWith]
theorem Rx.of {w : World} {b gO : Nat} {rs : List Rw} {L : List (List Nat)} {pad : List Value} (h : Rws w b rs L) (k : Bk w gO 23 (rwR rs L ++ pad)) : Rx w gO pad (rwR rs L) L := by
  refine ⟨rwR_len h.len, k, fun j hj => ?_⟩
  have hj2 : j < rs.length := by rw [h.len]; exact hj
  exact ⟨rs[j].A, rs[j].c, b, rwR_at hj hj2, h.own j hj hj2⟩
theorem Rx.step {w w' : World} {gO : Nat} {pad vs : List Value} {L : List (List Nat)} (h : Rx w gO pad vs L) (hb : Below w.heap.size w w') : Rx w' gO pad vs L := by
  refine ⟨h.len, h.bk.step hb, fun j hj => ?_⟩
  obtain ⟨A, c, b, e, o⟩ := h.own j hj
  exact ⟨A, c, b, e, own_below o hb (Nat.le_refl _)⟩
theorem Rx.set {w : World} {gO i b c : Nat} {pad vs : List Value} {L : List (List Nat)} {l : List Nat} {A : Option Addr} (h : Rx w gO pad vs L) (hi : i < L.length) (hv : w.ownsRow b 3 1 (.slice A l.length c) l.length (ints (nI l))) :
    Rx (w.setCell ⟨gO, i, none⟩ (.slice A l.length c)) gO pad (vs.set i (.slice A l.length c)) (L.set i l) := by
  have hiv : i < vs.length := by rw [h.len]; exact hi
  refine ⟨by simp [h.len], ?_, fun j hj => ?_⟩
  · have := h.bk.set_ i (.slice A l.length c)
    rwa [List.set_append_left _ _ hiv] at this
  · simp at hj
    by_cases hij : i = j
    · subst hij
      refine ⟨A, c, b, by simp [hiv], ?_⟩
      rw [List.getElem_set_self]
      exact own_bside hv h.bk (by decide) _ _
    · obtain ⟨A2, c2, b2, e, o⟩ := h.own j hj
      rw [List.getElem_set_ne hij]
      exact ⟨A2, c2, b2, by rw [List.getElem?_set_ne hij]; exact e, own_bside o h.bk (by decide) _ _⟩
theorem Rx.lss {w : World} {gO : Nat} {pad vs : List Value} {L : List (List Nat)} (h : Rx w gO pad vs L) : Lss w (some ⟨gO, 0, none⟩) L := by
  refine ⟨vs, h.len, h.bk.rdp, fun i hi => ?_⟩
  obtain ⟨A, c, b, e, o⟩ := h.own i hi
  exact ⟨A, c, e, own_rd o⟩
theorem Rx.cell {w : World} {gO : Nat} {pad vs : List Value} {L : List (List Nat)} (h : Rx w gO pad vs L) {i : Nat} {v : Value} (hv : vs[i]? = some v) : w.cell? ⟨gO, i, none⟩ = some v := by
  rw [h.bk.cell, List.getElem?_append_left (List.getElem?_eq_some_iff.1 hv).1]; exact hv
theorem lists_at {st : Ch} {i : Nat} (hi : i < st.hs.length) : (lists st)[i]'(by rw [lists_len]; exact hi) = cWalk st i := by simp [lists]
theorem rx_app {w w' : World} {b b' gO i c : Nat} {rs : List Rw} {L : List (List Nat)} {pad : List Value} {l : List Nat} {A : Option Addr} (R : Rws w b rs L) (k : Bk w gO 23 (rwR rs L ++ pad)) (hi : i < L.length) (hi' : i < rs.length)
    (hg : w.grownBy w' (rwV rs[i] L[i]).ownBlock) (hv : w'.ownsRow b' 3 1 (.slice A l.length c) l.length (ints (nI l))) : Rx (w'.setCell ⟨gO, i, none⟩ (.slice A l.length c)) gO pad ((rwR rs L).set i (.slice A l.length c)) (L.set i l) := by
  have hty := own_ty (R.own i hi hi')
  have k' : Bk w' gO 23 (rwR rs L ++ pad) := k.kept hg (fun j hj => by
    rw [ownB] at hj
    have hn := hty.ne k (by decide)
    cases hA : rs[i].A with
    | none => rw [hA] at hj; cases hj
    | some o => rw [hA] at hj; simp at hj; subst hj; exact hn o hA)
  have hlen := rwR_len R.len
  refine ⟨by simp [hlen], ?_, fun j hj => ?_⟩
  · have := k'.set_ i (.slice A l.length c)
    rwa [List.set_append_left _ _ (by rw [hlen]; exact hi)] at this
  · simp at hj
    by_cases hij : i = j
    · subst hij
      refine ⟨A, c, b', by simp [hlen, hi], ?_⟩
      rw [List.getElem_set_self]
      exact own_bside hv k' (by decide) _ _
    · have hj2 : j < rs.length := by rw [R.len]; exact hj
      refine ⟨rs[j].A, rs[j].c, b, ?_, ?_⟩
      · rw [List.getElem?_set_ne hij, rwR_at hj hj2, List.getElem_set_ne hij]
      · rw [List.getElem_set_ne hij]
        refine own_bside (own_kept (R.own j hj hj2) hg (fun ad e => ?_)) k' (by decide) _ _
        rw [ownB]
        cases hA : rs[i].A with
        | none => simp
        | some o => simp; exact R.ap i j hi' hj2 hij o ad hA e
set_option maxRecDepth 100000 in
set_option maxHeartbeats 8000000 in
theorem r04_Push_at (V : Value) (st : Ch) (list at_ : Int) (w : World) (h1 : st.ns.length ≤ 1000) (h2 : st.hs.length ≤ 1000) (h3 : st.ts.length ≤ 1000) (h : CsAt w V st) : Calls Try.prog 11 #[V, .int .i64 list, .int .i64 at_] w fun e w' => ∃ V', e = .returned (.tuple #[V', .int .i64 (dPush st list at_).2]) ∧ CsAt w' V' (dPush st list at_).1 ∧ Below w.heap.size w w' := by
  have HR := hide (show dPush st list at_ = if cCheck st ≠ 0 then (st, cCheck st) else if cIn list 0 ((st.hs.length : Int) - 1) = false then (st, 8) else if cIn at_ 0 ((st.ns.length : Int) - 1) = false then (st, 8) else if 0 ≤ (st.ns.getD at_.toNat nd0).l then (st, 13) else
    (laid st.ns.length ((lists st).set list.toNat (nth (lists st) list.toNat ++ [at_.toNat])), 0) from rfl)
  have HRN := hide (fun hc : ¬ cCheck st = 0 => show dPush st list at_ = (st, cCheck st) by rw [HR.out, if_pos hc])
  have HRC := hide (fun hc : cCheck st = 0 => show dPush st list at_ = if cIn list 0 ((st.hs.length : Int) - 1) = false then (st, 8) else if cIn at_ 0 ((st.ns.length : Int) - 1) = false then (st, 8) else if 0 ≤ (st.ns.getD at_.toNat nd0).l then (st, 13) else
    (laid st.ns.length ((lists st).set list.toNat (nth (lists st) list.toNat ++ [at_.toNat])), 0) by rw [HR.out, if_neg (by simp [hc])])
  generalize dPush st list at_ = R0 at *
  clear HR
  obtain ⟨A, B, C, a, b, c, rfl, rA, rB, rC⟩ := h
  obtain ⟨iT, hiT, hy0, hy1, hy2⟩ := info_parts cint_info
  have n0 : CsAt w (csV A B C a b c st.ns.length st.hs.length st.ts.length) st := ⟨A, B, C, a, b, c, rfl, rA, rB, rC⟩
  have hex : ∀ W : World, Below w.heap.size w W → ∀ cur, CsAt (W.setRow (w.heap.size + 1) cur) (csV A B C a b c st.ns.length st.hs.length st.ts.length) st := fun W hb cur => by
    have hs := hb.size
    have hlt : ∀ (D : Option Addr) (xs : List Value), Rd w w.heap.size D xs → Rd (W.setRow (w.heap.size + 1) cur) (W.setRow (w.heap.size + 1) cur).heap.size D xs := fun D xs r =>
      ((r.below hb).more hs).rowFarN (fun hn ad e => by
        obtain ⟨ad', e', hb', _⟩ := r hn
        rw [e] at e'; injection e' with e'; rw [e']; omega) _
    exact ⟨A, B, C, a, b, c, rfl, hlt _ _ rA, hlt _ _ rB, hlt _ _ rC⟩
  have HEX := hide hex
  clear hex
  have hC := fun (W : World) r r' r'' => r04_Check_any A B C a b c st W h1 h2 h3 r r' r''
  go_enter Try.func11, Try.ntmps11
  go_wp2_with fail
  generalize hV : World.alloc (World.alloc w _) _ = w1
  have hb : Below w.heap.size w w1 := by subst hV; (repeat (first | with_reducible exact Below.refl _ _ | with_reducible assumption | with_reducible refine Below.drew ?_ | with_reducible refine Below.drewN ?_ _ | with_reducible refine Below.alloc1 ?_ _ | with_reducible refine Below.setCell1 ?_ (by first | omega | (simp; done) | (simp; omega)) _ | with_reducible refine Below.step ?_ (by with_reducible assumption)))
  have k3 : Bk w1 w.heap.size 25 (csC A B C a b c st.ns.length st.hs.length st.ts.length) := by subst hV; exact (Bk.new' w 25 (csC A B C a b c st.ns.length st.hs.length st.ts.length) _ rfl).alloc _
  have k6 : Bk w1 (w.heap.size + 1) 25 (csC none none none 0 0 0 0 0 0) := by subst hV; exact Bk.new' (World.alloc w _) 25 (csC none none none 0 0 0 0 0 0) _ (by simp)
  clear hV
  refine (hC _ (rA.step hb) (rB.step hb) (rC.step hb)).mono ?_; rintro e w2 ⟨rfl, hy⟩
  replace k3 := k3.step hy; replace k6 := k6.step hy; replace hb := hb.step hy
  clear hy hC
  have l3 := k3.lt
  have l6 := k6.lt
  by_cases hc : cCheck st = 0
  case neg =>
    have bc : (cCheck st != 0) = true := by simpa using hc
    have hR := hide (HRN.out hc)
    clear HRN HRC hc rA rB rC n0
    generalize cCheck st = cv at *
    go_wp2_with (first | (refine wpList_load_row rfl 25 _ rfl _ rfl _ _ (0, 0) _ k3 Try.underlying25 rfl (by kernel_rfl) ?_) | (refine wpList_store_row rfl 25 _ _ rfl _ (csC A B C a b c st.ns.length st.hs.length st.ts.length).toArray rfl rfl _ _ k6 (by kernel_rfl) (by kernel_rfl) (by kernel_rfl) ?_))
    have r1 := k6.row (csC A B C a b c st.ns.length st.hs.length st.ts.length)
    refine bodyPost_ret (results_row_tmp rfl _ _ (w.heap.size + 1) _ _ _ rfl r1 Try.underlying25 rfl (by kernel_rfl)) rfl ⟨csV A B C a b c st.ns.length st.hs.length st.ts.length, ?_, ?_, setRow_below hb (by omega) _⟩
    · rw [hR.out]; rfl
    · rw [hR.out]; exact HEX.out _ hb _
  obtain ⟨⟨n1, hh1, hh2⟩, bn, bh, bt⟩ := check_bd hc
  obtain ⟨hG, hE⟩ := good_of hc
  have HG := hide hG
  have HE := hide hE
  have HBN := hide (show (∀ x ∈ st.ns, -1 ≤ x.n ∧ x.n ≤ (st.ns.length : Int) - 1) ∧ ∀ x ∈ st.hs, -1 ≤ x ∧ x ≤ (st.ns.length : Int) - 1 from ⟨fun x hx => (bn x hx).2.1, bh⟩)
  have HBL := hide (show ∀ x ∈ st.ns, -1 ≤ x.l ∧ x.l ≤ (st.hs.length : Int) - 1 from fun x hx => (bn x hx).1)
  have HR0 := hide (HRC.out hc)
  have bc : (cCheck st != 0) = false := by simpa using hc
  clear HRN HRC bn bh bt hc hh2 hG hE
  generalize cCheck st = cv at *
  have hI := fun W => r04_is_any A B C a b c st.ns.length st.hs.length st.ts.length list W h2
  have hN := fun W => r04_in_any at_ 0 ((st.ns.length : Int) - 1) W
  have wn : IntKind.i64.wrap ((st.ns.length : Int) - 1) = (st.ns.length : Int) - 1 := IntWalk.i64_in _ (by omega)
  have k3_0 := k3.cell 0; have k3_f0 := k3.frozen 0; have k3_1 := k3.cell 1; have k3_f1 := k3.frozen 1; have k3_2 := k3.cell 2; have k3_f2 := k3.frozen 2; simp only [List.set_cons_zero, List.set_cons_succ, List.getElem?_cons_zero, List.getElem?_cons_succ] at k3_0 k3_1 k3_2; have lt_k3 := k3.lt
  go_wp2_with fail
  refine (hI _).mono ?_; rintro e w3 ⟨rfl, hy⟩
  (try clear k3_0 k3_f0 k3_1 k3_f1 k3_2 k3_f2 lt_k3)
  replace k3 := k3.step hy; replace k6 := k6.step hy; replace hb := hb.step hy
  clear hy
  have l3 := k3.lt
  have l6 := k6.lt
  clear hI
  cases hv : cIn list 0 ((st.hs.length : Int) - 1)
  · have hR := hide (show R0 = (st, 8) by rw [HR0.out, if_pos hv])
    clear HR0 hv hN
    go_wp2_with (first | (refine wpList_load_row rfl 25 _ rfl _ rfl _ _ (0, 0) _ k3 Try.underlying25 rfl (by kernel_rfl) ?_) | (refine wpList_store_row rfl 25 _ _ rfl _ (csC A B C a b c st.ns.length st.hs.length st.ts.length).toArray rfl rfl _ _ k6 (by kernel_rfl) (by kernel_rfl) (by kernel_rfl) ?_))
    have r1 := k6.row (csC A B C a b c st.ns.length st.hs.length st.ts.length)
    refine bodyPost_ret (results_row_tmp rfl _ _ (w.heap.size + 1) _ _ _ rfl r1 Try.underlying25 rfl (by kernel_rfl)) rfl ⟨csV A B C a b c st.ns.length st.hs.length st.ts.length, ?_, ?_, setRow_below hb (by omega) _⟩
    · rw [hR.out]; rfl
    · rw [hR.out]; exact HEX.out _ hb _
  have hbi := cIn_t hv
  obtain ⟨i, rfl⟩ : ∃ i : Nat, list = (i : Int) := ⟨list.toNat, by omega⟩
  have hi : i < st.hs.length := by omega
  have hii : (i : Int) < (st.hs.length : Int) := by omega
  have HR1 := hide (show R0 = if cIn at_ 0 ((st.ns.length : Int) - 1) = false then (st, 8) else if 0 ≤ (st.ns.getD at_.toNat nd0).l then (st, 13) else (laid st.ns.length ((lists st).set i (nth (lists st) i ++ [at_.toNat])), 0) by rw [HR0.out, if_neg (by simp [hv])]; simp)
  clear HR0 hv hbi
  have k3_0 := k3.cell 0; have k3_f0 := k3.frozen 0; have k3_1 := k3.cell 1; have k3_f1 := k3.frozen 1; have k3_2 := k3.cell 2; have k3_f2 := k3.frozen 2; simp only [List.set_cons_zero, List.set_cons_succ, List.getElem?_cons_zero, List.getElem?_cons_succ] at k3_0 k3_1 k3_2; have lt_k3 := k3.lt
  go_wp2_with fail
  refine (hN _).mono ?_; rintro e w4 ⟨rfl, rfl⟩
  cases hv : cIn at_ 0 ((st.ns.length : Int) - 1)
  · have hR := hide (show R0 = (st, 8) by rw [HR1.out, if_pos hv])
    clear HR1 hv
    (try clear k3_0 k3_f0 k3_1 k3_f1 k3_2 k3_f2 lt_k3)
    go_wp2_with (first | (refine wpList_load_row rfl 25 _ rfl _ rfl _ _ (0, 0) _ k3 Try.underlying25 rfl (by kernel_rfl) ?_) | (refine wpList_store_row rfl 25 _ _ rfl _ (csC A B C a b c st.ns.length st.hs.length st.ts.length).toArray rfl rfl _ _ k6 (by kernel_rfl) (by kernel_rfl) (by kernel_rfl) ?_))
    have r1 := k6.row (csC A B C a b c st.ns.length st.hs.length st.ts.length)
    refine bodyPost_ret (results_row_tmp rfl _ _ (w.heap.size + 1) _ _ _ rfl r1 Try.underlying25 rfl (by kernel_rfl)) rfl ⟨csV A B C a b c st.ns.length st.hs.length st.ts.length, ?_, ?_, setRow_below hb (by omega) _⟩
    · rw [hR.out]; rfl
    · rw [hR.out]; exact HEX.out _ hb _
  have hbi := cIn_t hv
  obtain ⟨q, rfl⟩ : ∃ q : Nat, at_ = (q : Int) := ⟨at_.toNat, by omega⟩
  have hq : q < st.ns.length := by omega
  have hqi : (q : Int) < (st.ns.length : Int) := by omega
  have HR2 := hide (show R0 = if 0 ≤ st.ns[q].l then (st, 13) else (laid st.ns.length ((lists st).set i (nth (lists st) i ++ [q])), 0) by rw [HR1.out, if_neg (by simp [hv])]; simp [List.getD, hq])
  have HBQ := hide (HBL.out _ (List.getElem_mem hq))
  have HNQ := hide (show st.ns[q].l < 0 → q ∉ (lists st).flatten from fun hl => by
    have h5 := nd_l HG.out.vl hq
    rw [← HE.out] at h5
    rcases h5 with ⟨h6, _⟩ | ⟨k, _, _, h6⟩
    · exact h6
    · have e : st.ns.getD q nd0 = st.ns[q] := by simp [List.getD, hq]
      rw [e] at h6; omega)
  clear HR1 hv hbi hN
  obtain ⟨ad, e0, hadb, c1, c2, c3⟩ := ((rA.below hb).more hb.size).nd hq
  subst e0
  generalize st.ns[q] = x at *
  by_cases hl : 0 ≤ x.l
  · have hR := hide (show R0 = (st, 13) by rw [HR2.out, if_pos hl])
    clear HR2
    (try clear k3_0 k3_f0 k3_1 k3_f1 k3_2 k3_f2 lt_k3)
    have k3_0 := k3.cell 0; simp only [List.getElem?_cons_zero] at k3_0
    go_upto_region 7 with fail
    clear k3_0
    go_wp2_with (first | (refine wpList_load_row rfl 25 _ rfl _ rfl _ _ (0, 0) _ k3 Try.underlying25 rfl (by kernel_rfl) ?_) | (refine wpList_store_row rfl 25 _ _ rfl _ (csC (some ad) B C a b c st.ns.length st.hs.length st.ts.length).toArray rfl rfl _ _ k6 (by kernel_rfl) (by kernel_rfl) (by kernel_rfl) ?_))
    have r1 := k6.row (csC (some ad) B C a b c st.ns.length st.hs.length st.ts.length)
    refine bodyPost_ret (results_row_tmp rfl _ _ (w.heap.size + 1) _ _ _ rfl r1 Try.underlying25 rfl (by kernel_rfl)) rfl ⟨csV (some ad) B C a b c st.ns.length st.hs.length st.ts.length, ?_, ?_, setRow_below hb (by omega) _⟩
    · rw [hR.out]; rfl
    · rw [hR.out]; exact HEX.out _ hb _
  have hl2 : x.l < 0 := by omega
  have hR := hide (show R0 = (laid st.ns.length ((lists st).set i (nth (lists st) i ++ [q])), 0) by rw [HR2.out, if_neg hl])
  have hil : i < (lists st).length := by rw [lists_len]; exact hi
  have HLen := hide (show ((lists st).set i (nth (lists st) i ++ [q])).length ≤ 20 by rw [List.length_set]; have := HG.out.l2; omega)
  have HVl := hide (show Vl st.ns.length ((lists st).set i (nth (lists st) i ++ [q])) by rw [nth_at hil]; exact vl_put HG.out.vl hil (HNQ.out hl2) hq)
  clear HR2 hl
  go_upto_region 8 with fail
  clear c1 c2 c3
  have hAl := fun W h => r04_all_any (csV (some ad) B C a b c st.ns.length st.hs.length st.ts.length) st W h1 h2 HBN.out.1 HBN.out.2 h
  (try clear k3_0 k3_f0 k3_1 k3_f1 k3_2 k3_f2 lt_k3)
  go_wp2_with (first | (refine wpList_load_row rfl 25 _ rfl _ rfl _ _ (0, 0) _ k3 Try.underlying25 rfl (by kernel_rfl) ?_))
  refine (hAl _ (n0.step hb)).mono ?_; rintro e w5 ⟨O, cO, rs, rfl, ow, R, hy⟩
  replace k3 := k3.step hy; replace k6 := k6.step hy; replace hb := hb.step hy
  clear hy
  have l3 := k3.lt
  have l6 := k6.lt
  obtain ⟨gO, pad, rfl, hgO, _, kO⟩ := own_bk ow (by omega)
  clear ow hAl
  have hir : i < rs.length := by rw [R.len]; exact hil
  have HNT := hide (nth_at hil)
  have hll : (lists st)[i].length ≤ 64 := by
    have h5 := (vl_clear HG.out.vl hil).2
    have h6 := sub_len (P := List.range st.ns.length) h5.1 (fun x hx => List.mem_range.2 (h5.2.1 x hx))
    have h7 := HG.out.n2
    simp at h6; omega
  have oi := R.own i hil hir
  have cO2 := (Rx.of R kO).cell (i := i) (v := rwV rs[i] (lists st)[i]) (rwR_at hil hir)
  have fO := kO.frozen i
  have sO := kO.lt
  have szb := hb.size
  obtain ⟨Ar, hAr⟩ : ∃ v, Hid (v = rs[i].A) := ⟨_, hide rfl⟩
  obtain ⟨cr, hcr⟩ : ∃ v, Hid (v = rs[i].c) := ⟨_, hide rfl⟩
  obtain ⟨li, hli⟩ : ∃ v, Hid (v = (lists st)[i]) := ⟨_, hide rfl⟩
  have HRi := hide hir
  have HR := hide R
  have R0S := hide R.len
  have HKO := hide kO
  have hsO := hide sO
  simp only [rwV] at cO2 oi
  rw [← hAr.out, ← hcr.out, ← hli.out] at cO2 oi
  rw [← hli.out] at hll
  clear R kO
  have HKK := hide (fun (w6 : World) (o : Obj) (hg : (w5.alloc o).grownBy w6 (Value.slice Ar li.length cr).ownBlock) => show Bk w6 gO 23 (rwR rs (lists st) ++ pad) from (HKO.out.alloc o).kept (v := Value.slice Ar li.length cr) hg (fun j hj => by
    rw [ownB] at hj
    have hn := (own_ty oi).ne HKO.out (by decide)
    cases Ar with
    | none => cases hj
    | some o => simp at hj; subst hj; exact hn o rfl))
  have hvi : (rwR rs (lists st) ++ pad)[i]? = some (.slice Ar li.length cr) := by
    rw [List.getElem?_append_left (by rw [rwR_len R0S.out]; exact hil), rwR_at hil hir, hAr.out, hcr.out, hli.out]
  have HVI := hide hvi
  clear hvi
  go_upto_region 10 with (at_builtin; refine wpList_app2 rfl (.tmp 48) (.tmp 50) 23 rfl w3.heap.size 3 iT _ 1 8 Try.underlying23 hiT hy0 hy1 hy2 rfl (by omega) Ar li.length cr (ints (nI li)) rfl (oi.alloc _) ⟨w5.heap.size, 0, none⟩ 1 1 [.int .i64 (q : Int)] rfl rfl (news_at (cs := [_])) (by simp [Value.oneCell']) (by unfold maxLen; omega) (by omega) (by simp; omega) (by omega) ?_; intro gN cN w6 own6 hb6 hg6; (have kz := HKK.out w6 _ hg6); (have cz := (kz.cell i).trans HVI.out); (have fz := kz.frozen i))
  have hg7 : (w5.alloc (.cells #[.int .i64 (q : Int)] 3)).grownBy w6 (rwV rs[i] (lists st)[i]).ownBlock := by
    have h9 := hg6
    rw [hAr.out, hli.out, hcr.out] at h9
    exact h9
  have own7 : w6.ownsRow w3.heap.size 3 1 (.slice (some ⟨gN, 0, none⟩) (li ++ [q]).length cN) (li ++ [q]).length (ints (nI (li ++ [q]))) := by
    have e : ints (nI (li ++ [q])) = ints (nI li) ++ [.int .i64 (q : Int)] := by simp
    rw [e, List.length_append]; exact own6
  have rx := rx_app (HR.out.step ((Below.refl w5.heap.size w5).alloc1 (.cells #[.int .i64 (q : Int)] 3))) (HKO.out.alloc (.cells #[.int .i64 (q : Int)] 3)) hil hir hg7 own7
  rw [show (lists st).set i (li ++ [q]) = (lists st).set i (nth (lists st) i ++ [q]) by rw [HNT.out, hli.out]] at rx
  have e9 : (li ++ [q]).length = li.length + 1 := by simp
  rw [e9] at rx
  replace k3 := ((k3.alloc (.cells #[.int .i64 (q : Int)] 3)).below hb6 (by omega)).far (p := ⟨gO, i, none⟩) (by dsimp only; omega) (.slice (some ⟨gN, 0, none⟩) (li.length + 1) cN)
  replace k6 := ((k6.alloc (.cells #[.int .i64 (q : Int)] 3)).below hb6 (by omega)).far (p := ⟨gO, i, none⟩) (by dsimp only; omega) (.slice (some ⟨gN, 0, none⟩) (li.length + 1) cN)
  replace hb : Below w.heap.size w (w6.setCell ⟨gO, i, none⟩ (.slice (some ⟨gN, 0, none⟩) (li.length + 1) cN)) := ((hb.alloc (by omega) (.cells #[.int .i64 (q : Int)] 3)).trans (hb6.mono (by omega))).setCell (by dsimp only; omega) _
  generalize w6.setCell ⟨gO, i, none⟩ (.slice (some ⟨gN, 0, none⟩) (li.length + 1) cN) = w7 at *
  clear kz cz fz own6 own7 hg6 hg7 hb6 HKK HVI HR HKO oi cO2 fO e9 hAr hcr hli
  have hLd := fun W h => r04_laid_any st.ns.length (some ⟨gO, 0, none⟩) cO ((lists st).set i (nth (lists st) i ++ [q])) W HG.out.n1 HG.out.n2 HLen.out HVl.out h
  simp only [List.length_set, lists_len] at hLd
  have k3_0 := k3.cell 0; have k3_f0 := k3.frozen 0; have k3_1 := k3.cell 1; have k3_f1 := k3.frozen 1; have k3_2 := k3.cell 2; have k3_f2 := k3.frozen 2; simp only [List.set_cons_zero, List.set_cons_succ, List.getElem?_cons_zero, List.getElem?_cons_succ] at k3_0 k3_1 k3_2; have lt_k3 := k3.lt
  go_wp2_with fail
  refine (hLd _ rx.lss).mono ?_; rintro e wz ⟨V, rfl, hV, hy⟩
  obtain ⟨D1, D2, D3, d1, d2, d3, rfl, sA, sB, sC⟩ := hV
  (try clear k3_0 k3_f0 k3_1 k3_f1 k3_2 k3_f2 lt_k3)
  replace k6 := k6.step hy; replace hb := hb.step hy
  clear hy rx hLd k3
  have l6 := k6.lt
  go_wp2_with ((refine wpList_store_row rfl 25 _ _ rfl _ (csC D1 D2 D3 d1 d2 d3 (laid st.ns.length ((lists st).set i (nth (lists st) i ++ [q]))).ns.length (laid st.ns.length ((lists st).set i (nth (lists st) i ++ [q]))).hs.length (laid st.ns.length ((lists st).set i (nth (lists st) i ++ [q]))).ts.length).toArray rfl rfl _ _ k6 (by kernel_rfl) (by kernel_rfl) (by kernel_rfl) ?_))
  have r1 := k6.row (csC D1 D2 D3 d1 d2 d3 (laid st.ns.length ((lists st).set i (nth (lists st) i ++ [q]))).ns.length (laid st.ns.length ((lists st).set i (nth (lists st) i ++ [q]))).hs.length (laid st.ns.length ((lists st).set i (nth (lists st) i ++ [q]))).ts.length)
  have fin : CsAt (wz.setRow (w.heap.size + 1) (csC D1 D2 D3 d1 d2 d3 (laid st.ns.length ((lists st).set i (nth (lists st) i ++ [q]))).ns.length (laid st.ns.length ((lists st).set i (nth (lists st) i ++ [q]))).hs.length (laid st.ns.length ((lists st).set i (nth (lists st) i ++ [q]))).ts.length).toArray) (csV D1 D2 D3 d1 d2 d3 (laid st.ns.length ((lists st).set i (nth (lists st) i ++ [q]))).ns.length (laid st.ns.length ((lists st).set i (nth (lists st) i ++ [q]))).hs.length (laid st.ns.length ((lists st).set i (nth (lists st) i ++ [q]))).ts.length) (laid st.ns.length ((lists st).set i (nth (lists st) i ++ [q]))) := ⟨D1, D2, D3, d1, d2, d3, rfl, (sA.row k6 (by decide) _).rd, (sB.row k6 (by decide) _).rd, (sC.row k6 (by decide) _).rd⟩
  refine bodyPost_ret (results_row_tmp rfl _ _ (w.heap.size + 1) _ _ _ rfl r1 Try.underlying25 rfl (by kernel_rfl)) rfl ⟨csV D1 D2 D3 d1 d2 d3 (laid st.ns.length ((lists st).set i (nth (lists st) i ++ [q]))).ns.length (laid st.ns.length ((lists st).set i (nth (lists st) i ++ [q]))).hs.length (laid st.ns.length ((lists st).set i (nth (lists st) i ++ [q]))).ts.length, ?_, ?_, setRow_below hb (by omega) _⟩
  · rw [hR.out]; rfl
  · rw [hR.out]; exact fin
end Go.Proofs.Ythicpjfdljgfpaa

/- Package callboyref04: Unlink. -/
namespace Go.Proofs.Ythicpjfdljgfpaa
open Go.RowKit Go.Sort
set_option linter.unusedSimpArgs false
set_option linter.unusedVariables false

set_option maxRecDepth 100000 in
set_option maxHeartbeats 8000000 in
theorem r04_Unlink_at (V : Value) (st : Ch) (at_ : Int) (w : World) (h1 : st.ns.length ≤ 1000) (h2 : st.hs.length ≤ 1000) (h3 : st.ts.length ≤ 1000) (h : CsAt w V st) : Calls Try.prog 13 #[V, .int .i64 at_] w fun e w' => ∃ V', e = .returned (.tuple #[V', .int .i64 (dUnlink st at_).2]) ∧ CsAt w' V' (dUnlink st at_).1 ∧ Below w.heap.size w w' := by
  have HR := hide (show dUnlink st at_ = if cCheck st ≠ 0 then (st, cCheck st) else if cIn at_ 0 ((st.ns.length : Int) - 1) = false then (st, 8) else if (st.ns.getD at_.toNat nd0).l < 0 then (st, 6) else
    (laid st.ns.length ((lists st).set (st.ns.getD at_.toNat nd0).l.toNat ((nth (lists st) (st.ns.getD at_.toNat nd0).l.toNat).filter (fun x => x != at_.toNat))), 0) from rfl)
  have HRN := hide (fun hc : ¬ cCheck st = 0 => show dUnlink st at_ = (st, cCheck st) by rw [HR.out, if_pos hc])
  have HRC := hide (fun hc : cCheck st = 0 => show dUnlink st at_ = if cIn at_ 0 ((st.ns.length : Int) - 1) = false then (st, 8) else if (st.ns.getD at_.toNat nd0).l < 0 then (st, 6) else
    (laid st.ns.length ((lists st).set (st.ns.getD at_.toNat nd0).l.toNat ((nth (lists st) (st.ns.getD at_.toNat nd0).l.toNat).filter (fun x => x != at_.toNat))), 0) by rw [HR.out, if_neg (by simp [hc])])
  generalize dUnlink st at_ = R0 at *
  clear HR
  obtain ⟨A, B, C, a, b, c, rfl, rA, rB, rC⟩ := h
  obtain ⟨iT, hiT, hy0, hy1, hy2⟩ := info_parts cint_info
  have n0 : CsAt w (csV A B C a b c st.ns.length st.hs.length st.ts.length) st := ⟨A, B, C, a, b, c, rfl, rA, rB, rC⟩
  have hex : ∀ W : World, Below w.heap.size w W → ∀ cur, CsAt (W.setRow (w.heap.size + 1) cur) (csV A B C a b c st.ns.length st.hs.length st.ts.length) st := fun W hb cur => by
    have hs := hb.size
    have hlt : ∀ (D : Option Addr) (xs : List Value), Rd w w.heap.size D xs → Rd (W.setRow (w.heap.size + 1) cur) (W.setRow (w.heap.size + 1) cur).heap.size D xs := fun D xs r =>
      ((r.below hb).more hs).rowFarN (fun hn ad e => by
        obtain ⟨ad', e', hb', _⟩ := r hn
        rw [e] at e'; injection e' with e'; rw [e']; omega) _
    exact ⟨A, B, C, a, b, c, rfl, hlt _ _ rA, hlt _ _ rB, hlt _ _ rC⟩
  have HEX := hide hex
  clear hex
  have hC := fun (W : World) r r' r'' => r04_Check_any A B C a b c st W h1 h2 h3 r r' r''
  go_enter Try.func13, Try.ntmps13
  go_wp2_with fail
  generalize hV : World.alloc (World.alloc w _) _ = w1
  have hb : Below w.heap.size w w1 := by subst hV; (repeat (first | with_reducible exact Below.refl _ _ | with_reducible assumption | with_reducible refine Below.drew ?_ | with_reducible refine Below.drewN ?_ _ | with_reducible refine Below.alloc1 ?_ _ | with_reducible refine Below.setCell1 ?_ (by first | omega | (simp; done) | (simp; omega)) _ | with_reducible refine Below.step ?_ (by with_reducible assumption)))
  have k3 : Bk w1 w.heap.size 25 (csC A B C a b c st.ns.length st.hs.length st.ts.length) := by subst hV; exact (Bk.new' w 25 (csC A B C a b c st.ns.length st.hs.length st.ts.length) _ rfl).alloc _
  have k6 : Bk w1 (w.heap.size + 1) 25 (csC none none none 0 0 0 0 0 0) := by subst hV; exact Bk.new' (World.alloc w _) 25 (csC none none none 0 0 0 0 0 0) _ (by simp)
  clear hV
  refine (hC _ (rA.step hb) (rB.step hb) (rC.step hb)).mono ?_; rintro e w2 ⟨rfl, hy⟩
  replace k3 := k3.step hy; replace k6 := k6.step hy; replace hb := hb.step hy
  clear hy hC
  have l3 := k3.lt
  have l6 := k6.lt
  by_cases hc : cCheck st = 0
  case neg =>
    have bc : (cCheck st != 0) = true := by simpa using hc
    have hR := hide (HRN.out hc)
    clear HRN HRC hc rA rB rC n0
    generalize cCheck st = cv at *
    go_wp2_with (first | (refine wpList_load_row rfl 25 _ rfl _ rfl _ _ (0, 0) _ k3 Try.underlying25 rfl (by kernel_rfl) ?_) | (refine wpList_store_row rfl 25 _ _ rfl _ (csC A B C a b c st.ns.length st.hs.length st.ts.length).toArray rfl rfl _ _ k6 (by kernel_rfl) (by kernel_rfl) (by kernel_rfl) ?_))
    have r1 := k6.row (csC A B C a b c st.ns.length st.hs.length st.ts.length)
    refine bodyPost_ret (results_row_tmp rfl _ _ (w.heap.size + 1) _ _ _ rfl r1 Try.underlying25 rfl (by kernel_rfl)) rfl ⟨csV A B C a b c st.ns.length st.hs.length st.ts.length, ?_, ?_, setRow_below hb (by omega) _⟩
    · rw [hR.out]; rfl
    · rw [hR.out]; exact HEX.out _ hb _
  obtain ⟨⟨n1, hh1, hh2⟩, bn, bh, bt⟩ := check_bd hc
  obtain ⟨hG, hE⟩ := good_of hc
  have HG := hide hG
  have HE := hide hE
  have HBN := hide (show (∀ x ∈ st.ns, -1 ≤ x.n ∧ x.n ≤ (st.ns.length : Int) - 1) ∧ ∀ x ∈ st.hs, -1 ≤ x ∧ x ≤ (st.ns.length : Int) - 1 from ⟨fun x hx => (bn x hx).2.1, bh⟩)
  have HBL := hide (show ∀ x ∈ st.ns, -1 ≤ x.l ∧ x.l ≤ (st.hs.length : Int) - 1 from fun x hx => (bn x hx).1)
  have HR0 := hide (HRC.out hc)
  have bc : (cCheck st != 0) = false := by simpa using hc
  clear HRN HRC bn bh bt hc hh2 hG hE
  generalize cCheck st = cv at *
  have hN := fun W => r04_in_any at_ 0 ((st.ns.length : Int) - 1) W
  have wn : IntKind.i64.wrap ((st.ns.length : Int) - 1) = (st.ns.length : Int) - 1 := IntWalk.i64_in _ (by omega)
  have k3_0 := k3.cell 0; have k3_f0 := k3.frozen 0; have k3_1 := k3.cell 1; have k3_f1 := k3.frozen 1; have k3_2 := k3.cell 2; have k3_f2 := k3.frozen 2; simp only [List.set_cons_zero, List.set_cons_succ, List.getElem?_cons_zero, List.getElem?_cons_succ] at k3_0 k3_1 k3_2; have lt_k3 := k3.lt
  go_wp2_with fail
  refine (hN _).mono ?_; rintro e w4 ⟨rfl, rfl⟩
  cases hv : cIn at_ 0 ((st.ns.length : Int) - 1)
  · have hR := hide (show R0 = (st, 8) by rw [HR0.out, if_pos hv])
    clear HR0 hv
    (try clear k3_0 k3_f0 k3_1 k3_f1 k3_2 k3_f2 lt_k3)
    go_wp2_with (first | (refine wpList_load_row rfl 25 _ rfl _ rfl _ _ (0, 0) _ k3 Try.underlying25 rfl (by kernel_rfl) ?_) | (refine wpList_store_row rfl 25 _ _ rfl _ (csC A B C a b c st.ns.length st.hs.length st.ts.length).toArray rfl rfl _ _ k6 (by kernel_rfl) (by kernel_rfl) (by kernel_rfl) ?_))
    have r1 := k6.row (csC A B C a b c st.ns.length st.hs.length st.ts.length)
    refine bodyPost_ret (results_row_tmp rfl _ _ (w.heap.size + 1) _ _ _ rfl r1 Try.underlying25 rfl (by kernel_rfl)) rfl ⟨csV A B C a b c st.ns.length st.hs.length st.ts.length, ?_, ?_, setRow_below hb (by omega) _⟩
    · rw [hR.out]; rfl
    · rw [hR.out]; exact HEX.out _ hb _
  have hbi := cIn_t hv
  obtain ⟨q, rfl⟩ : ∃ q : Nat, at_ = (q : Int) := ⟨at_.toNat, by omega⟩
  have hq : q < st.ns.length := by omega
  have hqi : (q : Int) < (st.ns.length : Int) := by omega
  have HR2 := hide (show R0 = if st.ns[q].l < 0 then (st, 6) else (laid st.ns.length ((lists st).set st.ns[q].l.toNat ((nth (lists st) st.ns[q].l.toNat).filter (fun x => x != q))), 0) by
    have e : st.ns.getD q nd0 = st.ns[q] := by simp [List.getD, hq]
    rw [HR0.out, if_neg (by simp [hv]), Int.toNat_natCast, e])
  have hbl := HBL.out _ (List.getElem_mem hq)
  clear HR0 hv hbi hN
  obtain ⟨ad, e0, hadb, c1, c2, c3⟩ := (rA.below hb).nd hq
  subst e0
  generalize st.ns[q] = x at *
  by_cases hl : x.l < 0
  · have hR := hide (show R0 = (st, 6) by rw [HR2.out, if_pos hl])
    clear HR2
    (try clear k3_0 k3_f0 k3_1 k3_f1 k3_2 k3_f2 lt_k3)
    have k3_0 := k3.cell 0; simp only [List.getElem?_cons_zero] at k3_0
    go_upto_region 7 with fail
    clear k3_0
    go_wp2_with (first | (refine wpList_load_row rfl 25 _ rfl _ rfl _ _ (0, 0) _ k3 Try.underlying25 rfl (by kernel_rfl) ?_) | (refine wpList_store_row rfl 25 _ _ rfl _ (csC (some ad) B C a b c st.ns.length st.hs.length st.ts.length).toArray rfl rfl _ _ k6 (by kernel_rfl) (by kernel_rfl) (by kernel_rfl) ?_))
    have r1 := k6.row (csC (some ad) B C a b c st.ns.length st.hs.length st.ts.length)
    refine bodyPost_ret (results_row_tmp rfl _ _ (w.heap.size + 1) _ _ _ rfl r1 Try.underlying25 rfl (by kernel_rfl)) rfl ⟨csV (some ad) B C a b c st.ns.length st.hs.length st.ts.length, ?_, ?_, setRow_below hb (by omega) _⟩
    · rw [hR.out]; rfl
    · rw [hR.out]; exact HEX.out _ hb _
  obtain ⟨i, hxi⟩ : ∃ i : Nat, x.l = (i : Int) := ⟨x.l.toNat, by omega⟩
  have hR := hide (show R0 = (laid st.ns.length ((lists st).set i ((nth (lists st) i).filter (fun x => x != q))), 0) by rw [HR2.out, if_neg hl, hxi, Int.toNat_natCast])
  have hi : i < st.hs.length := by omega
  have hii : (i : Int) < (st.hs.length : Int) := by omega
  rw [hxi] at c1
  have hil : i < (lists st).length := by rw [lists_len]; exact hi
  have HLen := hide (show ((lists st).set i ((nth (lists st) i).filter (fun x => x != q))).length ≤ 20 by rw [List.length_set]; have := HG.out.l2; omega)
  have HVl := hide (show Vl st.ns.length ((lists st).set i ((nth (lists st) i).filter (fun x => x != q))) by
    rw [nth_at hil]
    exact vl_sub HG.out.vl hil ((vl_clear HG.out.vl hil).2.1.filter _) (fun p hp => (List.mem_filter.1 hp).1))
  have hi0 : (0 : Int) ≤ (i : Int) := by omega
  clear HR2 hl hxi c2 c3 hbl
  go_upto_region 8 with fail
  have hAl := fun W h => r04_all_any (csV (some ad) B C a b c st.ns.length st.hs.length st.ts.length) st W h1 h2 HBN.out.1 HBN.out.2 h
  (try clear k3_0 k3_f0 k3_1 k3_f1 k3_2 k3_f2 lt_k3)
  go_wp2_with (first | (refine wpList_load_row rfl 25 _ rfl _ rfl _ _ (0, 0) _ k3 Try.underlying25 rfl (by kernel_rfl) ?_))
  refine (hAl _ (n0.step hb)).mono ?_; rintro e w5 ⟨O, cO, rs, rfl, ow, R, hy⟩
  have hy5 := hy
  replace k3 := k3.step hy; replace k6 := k6.step hy; replace hb := hb.step hy
  clear hy
  have l3 := k3.lt
  have l6 := k6.lt
  obtain ⟨gO, pad, rfl, hgO, _, kO⟩ := own_bk ow (by omega)
  clear ow hAl
  have c5 : w5.cell? (ad.add (q * 3)) = some (.int .i64 (i : Int)) := (hy5.cell (p := ad.add (q * 3)) (by rw [add_block]; omega)).trans c1
  clear c1 hy5
  have hir : i < rs.length := by rw [R.len]; exact hil
  have HNT := hide (nth_at hil)
  have hll : (lists st)[i].length ≤ 64 := by
    have h5 := (vl_clear HG.out.vl hil).2
    have h6 := sub_len (P := List.range st.ns.length) h5.1 (fun x hx => List.mem_range.2 (h5.2.1 x hx))
    have h7 := HG.out.n2
    simp at h6; omega
  have oi := R.own i hil hir
  have cO2 := (Rx.of R kO).cell (i := i) (v := rwV rs[i] (lists st)[i]) (rwR_at hil hir)
  obtain ⟨Ar, hAr⟩ : ∃ v, Hid (v = rs[i].A) := ⟨_, hide rfl⟩
  obtain ⟨cr, hcr⟩ : ∃ v, Hid (v = rs[i].c) := ⟨_, hide rfl⟩
  obtain ⟨li, hli⟩ : ∃ v, Hid (v = (lists st)[i]) := ⟨_, hide rfl⟩
  simp only [rwV] at cO2 oi
  rw [← hAr.out, ← hcr.out, ← hli.out] at cO2 oi
  rw [← hli.out] at hll
  have rx0 := Rx.of R kO
  have rI := own_rd oi
  clear R kO oi hAr hcr
  have k3_0 := k3.cell 0; have k3_f0 := k3.frozen 0; have k3_1 := k3.cell 1; have k3_f1 := k3.frozen 1; have k3_2 := k3.cell 2; have k3_f2 := k3.frozen 2; simp only [List.set_cons_zero, List.set_cons_succ, List.getElem?_cons_zero, List.getElem?_cons_succ] at k3_0 k3_1 k3_2; have lt_k3 := k3.lt
  go_upto_region 12 with fail
  (try clear k3_0 k3_f0 k3_1 k3_f1 k3_2 k3_f2 lt_k3)
  go_loopw [8, 10] (fun ov v wr => ∃ (j : Nat) (Q : Option Addr) (cq : Nat), v = .int .i64 j ∧ ov = .slice Q ((li.take j).filter (fun x => x != q)).length cq ∧ j ≤ li.length ∧ wr.ownsRow w5.heap.size 3 1 (.slice Q ((li.take j).filter (fun x => x != q)).length cq) ((li.take j).filter (fun x => x != q)).length (ints (nI ((li.take j).filter (fun x => x != q)))) ∧ Below w5.heap.size w5 wr) (fun _ v _ => match v with | .int _ k => li.length - k.toNat | _ => 0)
  case atStart => exact ⟨0, none, 0, rfl, rfl, by omega, World.ownsRow_nil _ _ _ _, Below.refl _ _⟩
  case round =>
    obtain ⟨j, Q, cq, rfl, rfl, hj, own, hbm⟩ := hrel
    by_cases hje : j = li.length
    · subst hje
      rw [List.take_length] at own ⊢
      obtain ⟨wb, rfl⟩ : ∃ wn : World, wn = wr := ⟨_, rfl⟩
      have rx1 := rx0.step hbm
      replace k3 := k3.step hbm; replace k6 := k6.step hbm
      have c6 : wb.cell? (ad.add (q * 3)) = some (.int .i64 (i : Int)) := (hbm.cell (p := ad.add (q * 3)) (by rw [add_block]; omega)).trans c5
      replace hb := hb.step hbm
      have l3 := k3.lt
      have l6 := k6.lt
      have hvi := rx1.bk.cell i
      have fO := rx1.bk.frozen i
      have cO3 := (hbm.cell (p := ⟨gO, i, none⟩) (rx0.bk.lt)).trans cO2
      have rx := rx1.set (i := i) (l := li.filter (fun x => x != q)) hil own
      rw [show (lists st).set i (li.filter (fun x => x != q)) = (lists st).set i ((nth (lists st) i).filter (fun x => x != q)) by rw [HNT.out, hli.out]] at rx
      have sO := rx1.bk.lt
      clear hvi cO2 c5 rx0 rx1 rI own hbm hll
      generalize hfl : (li.filter (fun x => x != q)).length = fl at *
      clear hfl
      have k3_0 := k3.cell 0; have k3_f0 := k3.frozen 0; have k3_1 := k3.cell 1; have k3_f1 := k3.frozen 1; have k3_2 := k3.cell 2; have k3_f2 := k3.frozen 2; simp only [List.set_cons_zero, List.set_cons_succ, List.getElem?_cons_zero, List.getElem?_cons_succ] at k3_0 k3_1 k3_2; have lt_k3 := k3.lt
      go_upto_region 17 with fail
      (try clear k3_0 k3_f0 k3_1 k3_f1 k3_2 k3_f2 lt_k3)
      replace k3 := k3.far (p := ⟨gO, i, none⟩) (by dsimp only; omega) (.slice Q fl cq)
      replace k6 := k6.far (p := ⟨gO, i, none⟩) (by dsimp only; omega) (.slice Q fl cq)
      replace hb : Below w.heap.size w (wb.setCell ⟨gO, i, none⟩ (.slice Q fl cq)) := hb.setCell (by dsimp only; omega) _
      generalize wb.setCell ⟨gO, i, none⟩ (.slice Q fl cq) = w7 at *
      clear cO3 fO c6 sO
      have hLd := fun W h => r04_laid_any st.ns.length (some ⟨gO, 0, none⟩) cO ((lists st).set i ((nth (lists st) i).filter (fun x => x != q))) W HG.out.n1 HG.out.n2 HLen.out HVl.out h
      simp only [List.length_set, lists_len] at hLd
      have k3_0 := k3.cell 0; have k3_f0 := k3.frozen 0; have k3_1 := k3.cell 1; have k3_f1 := k3.frozen 1; have k3_2 := k3.cell 2; have k3_f2 := k3.frozen 2; simp only [List.set_cons_zero, List.set_cons_succ, List.getElem?_cons_zero, List.getElem?_cons_succ] at k3_0 k3_1 k3_2; have lt_k3 := k3.lt
      go_wp2_with fail
      refine (hLd _ rx.lss).mono ?_; rintro e wz ⟨V, rfl, hV, hy⟩
      obtain ⟨D1, D2, D3, d1, d2, d3, rfl, sA, sB, sC⟩ := hV
      (try clear k3_0 k3_f0 k3_1 k3_f1 k3_2 k3_f2 lt_k3)
      replace k6 := k6.step hy; replace hb := hb.step hy
      clear hy rx hLd k3
      have l6 := k6.lt
      go_wp2_with ((refine wpList_store_row rfl 25 _ _ rfl _ (csC D1 D2 D3 d1 d2 d3 (laid st.ns.length ((lists st).set i ((nth (lists st) i).filter (fun x => x != q)))).ns.length (laid st.ns.length ((lists st).set i ((nth (lists st) i).filter (fun x => x != q)))).hs.length (laid st.ns.length ((lists st).set i ((nth (lists st) i).filter (fun x => x != q)))).ts.length).toArray rfl rfl _ _ k6 (by kernel_rfl) (by kernel_rfl) (by kernel_rfl) ?_))
      have r1 := k6.row (csC D1 D2 D3 d1 d2 d3 (laid st.ns.length ((lists st).set i ((nth (lists st) i).filter (fun x => x != q)))).ns.length (laid st.ns.length ((lists st).set i ((nth (lists st) i).filter (fun x => x != q)))).hs.length (laid st.ns.length ((lists st).set i ((nth (lists st) i).filter (fun x => x != q)))).ts.length)
      have fin : CsAt (wz.setRow (w.heap.size + 1) (csC D1 D2 D3 d1 d2 d3 (laid st.ns.length ((lists st).set i ((nth (lists st) i).filter (fun x => x != q)))).ns.length (laid st.ns.length ((lists st).set i ((nth (lists st) i).filter (fun x => x != q)))).hs.length (laid st.ns.length ((lists st).set i ((nth (lists st) i).filter (fun x => x != q)))).ts.length).toArray) (csV D1 D2 D3 d1 d2 d3 (laid st.ns.length ((lists st).set i ((nth (lists st) i).filter (fun x => x != q)))).ns.length (laid st.ns.length ((lists st).set i ((nth (lists st) i).filter (fun x => x != q)))).hs.length (laid st.ns.length ((lists st).set i ((nth (lists st) i).filter (fun x => x != q)))).ts.length) (laid st.ns.length ((lists st).set i ((nth (lists st) i).filter (fun x => x != q)))) := ⟨D1, D2, D3, d1, d2, d3, rfl, (sA.row k6 (by decide) _).rd, (sB.row k6 (by decide) _).rd, (sC.row k6 (by decide) _).rd⟩
      refine bodyPost_ret (results_row_tmp rfl _ _ (w.heap.size + 1) _ _ _ rfl r1 Try.underlying25 rfl (by kernel_rfl)) rfl ⟨csV D1 D2 D3 d1 d2 d3 (laid st.ns.length ((lists st).set i ((nth (lists st) i).filter (fun x => x != q)))).ns.length (laid st.ns.length ((lists st).set i ((nth (lists st) i).filter (fun x => x != q)))).hs.length (laid st.ns.length ((lists st).set i ((nth (lists st) i).filter (fun x => x != q)))).ts.length, ?_, ?_, setRow_below hb (by omega) _⟩
      · rw [hR.out]; rfl
      · rw [hR.out]; exact fin
    · have hjl : j < li.length := by omega
      have hji : (j : Int) < (li.length : Int) := by omega
      obtain ⟨od, rfl, hodb, ho⟩ := (rI.step hbm).at_ (k := j) (by simpa using hjl)
      have ho2 : (ints (nI li))[j]'(by simpa using hjl) = .int .i64 ((li[j] : Nat) : Int) := by simp
      rw [ho2] at ho
      have HF := hide (show (li.take (j + 1)).filter (fun x => x != q) = (li.take j).filter (fun x => x != q) ++ (if li[j] = q then [] else [li[j]]) by
        rw [List.take_succ_eq_append_getElem hjl, List.filter_append]
        congr 1
        by_cases e : li[j] = q <;> simp [e])
      have hfb : ((li.take j).filter (fun x => x != q)).length ≤ 64 := by
        have h5 := List.length_filter_le (fun x => x != q) (li.take j)
        rw [List.length_take] at h5; omega
      generalize (li.take j).filter (fun x => x != q) = F at *
      generalize li[j] = p at *
      have hs5 := hbm.size
      by_cases hpq : p = q
      · have bp : ((p : Int) != (q : Int)) = false := by simp [hpq]
        have HF2 := hide (show (li.take (j + 1)).filter (fun x => x != q) = F by rw [HF.out, if_pos hpq]; simp)
        clear hpq HF
        go_wp2
        go_roundw
        case rel => exact ⟨j + 1, Q, cq, by rw [Int.natCast_add]; rfl, by rw [HF2.out], by omega, by rw [HF2.out]; exact own, hbm⟩
        case measure => simp; omega
      · have bp : ((p : Int) != (q : Int)) = true := by simp; omega
        have HF2 := hide (show (li.take (j + 1)).filter (fun x => x != q) = F ++ [p] by rw [HF.out, if_neg hpq])
        clear hpq HF
        go_wp2_with (at_builtin; refine wpList_app2 rfl (.tmp 59) (.tmp 64) 23 rfl w5.heap.size 3 iT _ 1 8 Try.underlying23 hiT hy0 hy1 hy2 rfl (by omega) Q F.length cq (ints (nI F)) rfl (own.alloc _) ⟨wr.heap.size, 0, none⟩ 1 1 [.int .i64 (p : Int)] rfl rfl (news_at (cs := [_])) (by simp [Value.oneCell']) (by unfold maxLen; omega) (by omega) (by simp; omega) (by omega) ?_; intro gN cN w6 own6 hb6 hg6)
        go_roundw
        case rel =>
          refine ⟨j + 1, some ⟨gN, 0, none⟩, cN, by rw [Int.natCast_add]; rfl, by rw [HF2.out, List.length_append]; rfl, by omega, ?_, (hbm.alloc (by omega) (.cells #[.int .i64 (p : Int)] 3)).trans hb6⟩
          have e : ints (nI (F ++ [p])) = ints (nI F) ++ [.int .i64 (p : Int)] := by simp
          rw [HF2.out, e, List.length_append]; exact own6
        case measure => simp; omega
end Go.Proofs.Ythicpjfdljgfpaa

/- Appends to rows of one's own, of slices that may be nothing; what st[:k], st[k:] are. No program in sight. -/
namespace Go.Proofs.Ythicpjfdljgfpaa
open Go.RowKit Go.Sort
set_option linter.unusedSimpArgs false
set_option linter.unusedVariables false

/-- append of a slice (of nothing too) to a row of one's own -/
theorem wpList_app3 {P : Program} {w : World} {ops : Array Oper} {rest : List Oper} {o : Oper} {a : Act} {Q : Exit → Act → World → Prop} (hgd : o.guard = none) (s x : Operand) (t : TypeId)
    (ho : o.op = .call { callee := .builtin .append, args := #[s, x], argTypes := #[t, t] })
    (base : Nat) (e : TypeId) (i : TypeInfo) (z : Value) (size bytes : Nat) (ht : P.underlying t = some (.slice e)) (hi : P.info? e = some i) (hz : i.zero = some z)
    (hsize : i.size = size) (hby : i.bytes = bytes) (hzs : z.cells.size = size) (hsz : 0 < size)
    (A : Option Addr) (n c : Nat) (xs : List Value) (hs : a.eval s = .slice A n c) (hown : w.ownsRow base e size (.slice A n c) n xs)
    (X : Option Addr) (m c' : Nat) (news : List Value) (B : Nat) (hx : a.eval x = .slice X m c') (hl : news.length = m * size) (hnews : Rd w B X news) (h1 : ∀ u ∈ news, u.oneCell' = true)
    (h63 : n + m ≤ maxLen) (hbytes : (n + m) * bytes ≤ 140737488355328) (hbase : base ≤ w.heap.size)
    (h : ∀ A' cap w', w'.ownsRow base e size (.slice A' (n + m) cap) (n + m) (xs ++ news) → Below base w w' → w.grownBy w' (Value.slice A n c).ownBlock → wpList P ops Q rest (a.put o.dst (.slice A' (n + m) cap)) w') : wpList P ops Q (o :: rest) a w := by
  rcases X with _ | ad
  · have hn : news = [] := Classical.byContradiction fun hne => by
      obtain ⟨ad, e, _⟩ := hnews hne
      cases e
    subst hn
    have hm : m = 0 := by
      rcases Nat.eq_zero_or_pos m with h | h
      · exact h
      · have := Nat.mul_pos h hsz; simp at hl; omega
    subst hm
    have hnc : n ≤ c := by
      rcases hown.2 with ⟨hv, hn⟩ | ⟨g, cap, cur, hv, _, _, hle, _⟩
      · omega
      · cases hv; exact hle
    have hrun := fun ty => run_append_nothing (P := P) w t t ty e i ht hi A n c hnc (.slice none 0 c') (Src.ofNil w ht c')
    refine wpList_plain hgd fun K hK => ?_
    unfold Oper.wp
    simp [execOp, ho, resolve, invoke, builtin, hs, hx, hrun, Result.andThen]
    exact hK _ _ (h A c w (by simpa using hown) (Below.refl _ _) (Gr.refl w _))
  · refine wpList_append_own w hgd s x t ho base e i z size bytes ht hi hz hsize hby hzs hsz (.slice A n c) n xs hs hown ad m c' news hx hl ?_ h1 h63 hbytes hbase fun v' w' h2 h3 _ => ?_
    · intro j u hu
      obtain ⟨ad', e, _, hc⟩ := hnews (by rintro h0; rw [h0] at hu; simp at hu)
      injection e with e; subst e
      exact hc j u hu
    · obtain ⟨A', cap, rfl⟩ := own_form h2
      exact h A' cap w' h2 ((Below.refl base w).grown h3 hbase (fun k hk => (hown.lt k hk).1)) h3
theorem from_run {P : Program} {t e : TypeId} {size : Nat} (ht : P.underlying t = some (.slice e)) (he : P.elem t = e) (hs : ∀ W, (sizeOf e).run P W = .ok size W) (ad : Addr) (k n c : Nat) (v : Int) (hv : v = k) (hk : k ≤ n) (hn : n ≤ c) :
    ∃ A2, ((A2 = some ad ∧ c = k) ∨ A2 = some (ad.add (k * size))) ∧ (∀ W, (Instr.slice t (.slice (some ad) n c) (some (.int .i64 v)) none none).run P W = .ok (.slice A2 (n - k) (c - k)) W) ∧ (∀ W, (Instr.sliceAt t (.slice (some ad) n c) (some (.int .i64 v)) none none).run P W = .ok (.slice A2 (n - k) (c - k)) W) := by
  subst hv
  have hu : P.underlying t = some (.slice (P.elem t)) := by rw [he]; exact ht
  have hb : ∃ A2, ((A2 = some ad ∧ c = k) ∨ A2 = some (ad.add (k * size))) ∧ (∀ W, (Instr.slice t (.slice (some ad) n c) (some (.int .i64 (k : Int))) none none).run P W = .ok (.slice A2 (n - k) (c - k)) W) := by
    by_cases h1 : c = k
    · refine ⟨_, .inl ⟨rfl, h1⟩, fun W => ?_⟩
      rw [run_slice_l (ht := hu) (h0 := by omega) (h1 := by omega), he, hs]
      simp [sliced, h1]
    · refine ⟨_, .inr rfl, fun W => ?_⟩
      rw [run_slice_l (ht := hu) (h0 := by omega) (h1 := by omega), he, hs]
      simp [sliced, h1]
  obtain ⟨A2, h1, h2⟩ := hb
  exact ⟨A2, h1, h2, fun W => (run_sliceAt_slice W _ _ _ _ _ hu).trans (h2 W)⟩
theorem to_run {P : Program} {t e : TypeId} {size : Nat} (ht : P.underlying t = some (.slice e)) (he : P.elem t = e) (hs : ∀ W, (sizeOf e).run P W = .ok size W) (ad : Addr) (k n c : Nat) (hk : k ≤ c) :
    (∀ W, (Instr.slice t (.slice (some ad) n c) none (some (.int .i64 (k : Int))) none).run P W = .ok (.slice (some ad) k c) W) ∧ (∀ W, (Instr.sliceAt t (.slice (some ad) n c) none (some (.int .i64 (k : Int))) none).run P W = .ok (.slice (some ad) k c) W) := by
  have hu : P.underlying t = some (.slice (P.elem t)) := by rw [he]; exact ht
  have hb : (∀ W, (Instr.slice t (.slice (some ad) n c) none (some (.int .i64 (k : Int))) none).run P W = .ok (.slice (some ad) k c) W) := fun W => by
    rw [run_slice_h (ht := hu) (h0 := by omega) (h2 := by omega), he, hs]
    by_cases h1 : c = 0 <;> simp [sliced, h1, Addr.add]
  exact ⟨hb, fun W => (run_sliceAt_slice W _ _ _ _ _ hu).trans (hb W)⟩
theorem mUpon_appnil {P : Program} {o : Oper} {a : Act} {w : World} (s x : Operand) (t : TypeId) (hop : o.op = Op.call { callee := Callee.builtin Builtin.append, args := #[s, x], argTypes := #[t, t] })
    (e : TypeId) (i : TypeInfo) (z : Value) (size bytes : Nat) (h1 : P.underlying t = some (.slice e)) (h2 : P.info? e = some i) (h3 : i.zero = some z) (h4 : i.size = size) (h5 : i.bytes = bytes) (h6 : z.cells.size = size) (h7 : 0 < size)
    (base : Nat) (hbase : base ≤ w.heap.size) (hs : a.eval s = .slice none 0 0)
    (X : Option Addr) (m c : Nat) (news : List Value) (B : Nat) (hx : a.eval x = .slice X m c) (hn : news.length = m * size) (hc : Rd w B X news) (h1c : ∀ u ∈ news, u.oneCell' = true)
    (b1 : m ≤ maxLen) (b2 : m * bytes ≤ 140737488355328) : mUpon P (OwnAtR base e size m news) w ((execOp a.eval o).run P w) := by
  have hown : w.ownsRow base e size (.slice none 0 0) 0 [] := ⟨by simp, .inl ⟨rfl, rfl⟩⟩
  rcases X with _ | ad
  · have hn0 : news = [] := Classical.byContradiction fun hne => by
      obtain ⟨ad, e, _⟩ := hc hne
      cases e
    subst hn0
    have hm : m = 0 := by
      rcases Nat.eq_zero_or_pos m with h | h
      · exact h
      · have := Nat.mul_pos h h7; simp at hn; omega
    subst hm
    have hrun := fun ty => run_append_nothing (P := P) w t t ty e i h1 h2 none 0 0 (Nat.le_refl _) (.slice none 0 c) (Src.ofNil w h1 c)
    simp only [execOp, hop, resolve, invoke, builtin, Sem.run_bind, Sem.run_pure, Result.andThen_ok, List.map_toArray, List.map_cons, List.map_nil, hs, hx, hrun]
    exact ⟨⟨_, _, rfl⟩, ⟨_, _, rfl, hown⟩, Below.refl _ _⟩
  · have hnews : ∀ j u, news[j]? = some u → w.cell? (ad.add j) = some u := by
      intro j u hu
      obtain ⟨ad', e, _, hc⟩ := hc (by rintro h0; rw [h0] at hu; simp at hu)
      injection e with e; subst e
      exact hc j u hu
    obtain ⟨v', w', hr, r1, r2, _⟩ := run_append_own (P := P) w base t o.type e i z size bytes h1 h2 h3 h4 h5 h6 h7 (.slice none 0 0) 0 [] hown ad m c news hn hnews h1c (by simpa using b1) (by simpa using b2) hbase
    rw [Nat.zero_add, List.nil_append] at r1
    obtain ⟨B', d, rfl⟩ := own_form r1
    simp only [execOp, hop, resolve, invoke, builtin, Sem.run_bind, Sem.run_pure, Result.andThen_ok, List.map_toArray, List.map_cons, List.map_nil, hs, hx, hr]
    exact ⟨⟨_, _, rfl⟩, ⟨_, _, rfl, r1⟩, (Below.refl w.heap.size w).grown r2 (Nat.le_refl _) (fun k hk => by simp [Value.ownBlock] at hk)⟩
/-- st[:k] and st[k:] of a slice that may be nil -/
theorem to_runA {P : Program} {t e : TypeId} {size : Nat} (ht : P.underlying t = some (.slice e)) (he : P.elem t = e) (hs : ∀ W, (sizeOf e).run P W = .ok size W) (A : Option Addr) (k n c : Nat) (v : Int) (hv : v = k) (hk : k ≤ c) :
    (∀ W, (Instr.slice t (.slice A n c) none (some (.int .i64 v)) none).run P W = .ok (.slice A k c) W) ∧ (∀ W, (Instr.sliceAt t (.slice A n c) none (some (.int .i64 v)) none).run P W = .ok (.slice A k c) W) := by
  subst hv
  have hu : P.underlying t = some (.slice (P.elem t)) := by rw [he]; exact ht
  have hb : (∀ W, (Instr.slice t (.slice A n c) none (some (.int .i64 (k : Int))) none).run P W = .ok (.slice A k c) W) := fun W => by
    rw [run_slice_h (ht := hu) (h0 := by omega) (h2 := by omega), he, hs]
    have hm : A.map (fun a : Addr => a.add 0) = A := by cases A <;> simp [Addr.add]
    by_cases h1 : c = 0 <;> simp [sliced, h1, hm]
  exact ⟨hb, fun W => (run_sliceAt_slice W _ _ _ _ _ hu).trans (hb W)⟩
theorem from_runA {P : Program} {t e : TypeId} {size : Nat} (ht : P.underlying t = some (.slice e)) (he : P.elem t = e) (hs : ∀ W, (sizeOf e).run P W = .ok size W) (A : Option Addr) (k n c : Nat) (v : Int) (hv : v = k) (hk : k ≤ n) (hn : n ≤ c) :
    ∃ A2, (∀ w B xs, Rd w B A xs → xs.length = n * size → Rd w B A2 (xs.drop (k * size))) ∧ (∀ W, (Instr.slice t (.slice A n c) (some (.int .i64 v)) none none).run P W = .ok (.slice A2 (n - k) (c - k)) W) ∧ (∀ W, (Instr.sliceAt t (.slice A n c) (some (.int .i64 v)) none none).run P W = .ok (.slice A2 (n - k) (c - k)) W) := by
  subst hv
  have hu : P.underlying t = some (.slice (P.elem t)) := by rw [he]; exact ht
  have hb : ∃ A2, (∀ w B xs, Rd w B A xs → xs.length = n * size → Rd w B A2 (xs.drop (k * size))) ∧ (∀ W, (Instr.slice t (.slice A n c) (some (.int .i64 (k : Int))) none none).run P W = .ok (.slice A2 (n - k) (c - k)) W) := by
    by_cases h1 : c = k
    · refine ⟨A, fun w B xs _ hl => ?_, fun W => ?_⟩
      · rw [List.drop_eq_nil_of_le (by rw [hl, show n = k by omega]; exact Nat.le_refl _)]; exact Rd.nil
      · rw [run_slice_l (ht := hu) (h0 := by omega) (h1 := by omega), he, hs]
        simp [sliced, h1]
    · refine ⟨A.map (fun a : Addr => a.add (k * size)), fun w B xs h hl => ?_, fun W => ?_⟩
      · cases A with
        | none =>
          have : xs = [] := Classical.byContradiction fun hne => by obtain ⟨ad, e, _⟩ := h hne; cases e
          rw [this, List.drop_nil]; exact Rd.nil
        | some ad => exact h.drop _
      · rw [run_slice_l (ht := hu) (h0 := by omega) (h1 := by omega), he, hs]
        simp [sliced, h1]
  obtain ⟨A2, h1, h2⟩ := hb
  exact ⟨A2, h1, h2, fun W => (run_sliceAt_slice W _ _ _ _ _ hu).trans (h2 W)⟩
theorem rd_hnews {w : World} {B : Nat} {ad : Addr} {xs : List Value} (h : Rd w B (some ad) xs) : ∀ j u, xs[j]? = some u → w.cell? (ad.add j) = some u := by
  intro j u hu
  obtain ⟨ad', e, _, hc⟩ := h (by rintro h0; rw [h0] at hu; simp at hu)
  injection e with e; subst e
  exact hc j u hu
end Go.Proofs.Ythicpjfdljgfpaa

/- Package callboyref04: Splice. -/
namespace Go.Proofs.Ythicpjfdljgfpaa
open Go.RowKit Go.Sort
set_option linter.unusedSimpArgs false
set_option linter.unusedVariables false

theorem step_app3 {P : Program} {w : World} {ops : Array Oper} {o : Oper} {a : Act} {K : Act → World → Prop} {Q : Exit → Act → World → Prop} {E : Prop} (hgd : o.guard = none) (s x : Operand) (t : TypeId)
    (ho : o.op = .call { callee := .builtin .append, args := #[s, x], argTypes := #[t, t] })
    (base : Nat) (e : TypeId) (i : TypeInfo) (z : Value) (size bytes : Nat) (ht : P.underlying t = some (.slice e)) (hi : P.info? e = some i) (hz : i.zero = some z)
    (hsize : i.size = size) (hby : i.bytes = bytes) (hzs : z.cells.size = size) (hsz : 0 < size)
    (A : Option Addr) (n c : Nat) (xs : List Value) (hs : a.eval s = .slice A n c) (hown : w.ownsRow base e size (.slice A n c) n xs)
    (X : Option Addr) (m c' : Nat) (news : List Value) (B : Nat) (hx : a.eval x = .slice X m c') (hl : news.length = m * size) (hnews : Rd w B X news) (h1 : ∀ u ∈ news, u.oneCell' = true)
    (h63 : n + m ≤ maxLen) (hbytes : (n + m) * bytes ≤ 140737488355328) (hbase : base ≤ w.heap.size)
    (h : ∀ A' cap w', w'.ownsRow base e size (.slice A' (n + m) cap) (n + m) (xs ++ news) → Below base w w' → w.grownBy w' (Value.slice A n c).ownBlock → K (a.put o.dst (.slice A' (n + m) cap)) w') :
    if Region.wanted o (yielded ops a.tmps) = true then Oper.wp P o a w K Q else E := by
  have hw : Region.wanted o (yielded ops a.tmps) = true := by simp [Region.wanted, hgd]
  rw [if_pos hw]
  rcases X with _ | ad
  · have hn : news = [] := Classical.byContradiction fun hne => by
      obtain ⟨ad, e, _⟩ := hnews hne
      cases e
    subst hn
    have hm : m = 0 := by
      rcases Nat.eq_zero_or_pos m with h | h
      · exact h
      · have := Nat.mul_pos h hsz; simp at hl; omega
    subst hm
    have hnc : n ≤ c := by
      rcases hown.2 with ⟨hv, hn⟩ | ⟨g, cap, cur, hv, _, _, hle, _⟩
      · omega
      · cases hv; exact hle
    have hrun := fun ty => run_append_nothing (P := P) w t t ty e i ht hi A n c hnc (.slice none 0 c') (Src.ofNil w ht c')
    unfold Oper.wp
    simp [execOp, ho, resolve, invoke, builtin, hs, hx, hrun, Result.andThen]
    exact h A c w (by simpa using hown) (Below.refl _ _) (Gr.refl w _)
  · refine wp_append_own w s x t ho base e i z size bytes ht hi hz hsize hby hzs hsz (.slice A n c) n xs hs hown ad m c' news hx hl ?_ h1 h63 hbytes hbase fun v' w' h2 h3 _ => ?_
    · intro j u hu
      obtain ⟨ad', e, _, hc⟩ := hnews (by rintro h0; rw [h0] at hu; simp at hu)
      injection e with e; subst e
      exact hc j u hu
    · obtain ⟨A', cap, rfl⟩ := own_form h2
      exact h A' cap w' h2 ((Below.refl base w).grown h3 hbase (fun k hk => (hown.lt k hk).1)) h3
theorem ints_one (l : List Int) : ∀ u ∈ ints l, u.oneCell' = true := by
  intro u hu
  simp only [ints, List.mem_map] at hu
  obtain ⟨v, _, rfl⟩ := hu
  rfl
set_option maxRecDepth 100000 in
set_option maxHeartbeats 8000000 in
theorem r04_Splice_at (V : Value) (st : Ch) (i0 j0 : Int) (w : World) (h1 : st.ns.length ≤ 1000) (h2 : st.hs.length ≤ 1000) (h3 : st.ts.length ≤ 1000) (h : CsAt w V st) : Calls Try.prog 15 #[V, .int .i64 i0, .int .i64 j0] w fun e w' => ∃ V', e = .returned (.tuple #[V', .int .i64 (dSplice st i0 j0).2]) ∧ CsAt w' V' (dSplice st i0 j0).1 ∧ Below w.heap.size w w' := by
  have HR := hide (show dSplice st i0 j0 = if cCheck st ≠ 0 then (st, cCheck st) else if cIn i0 0 ((st.hs.length : Int) - 1) = false then (st, 8) else if cIn j0 0 ((st.hs.length : Int) - 1) = false then (st, 8) else if i0 = j0 then (st, 2) else
    (laid st.ns.length (((lists st).set j0.toNat (nth (lists st) j0.toNat ++ nth (lists st) i0.toNat)).set i0.toNat []), 0) from rfl)
  have HRN := hide (fun hc : ¬ cCheck st = 0 => show dSplice st i0 j0 = (st, cCheck st) by rw [HR.out, if_pos hc])
  have HRC := hide (fun hc : cCheck st = 0 => show dSplice st i0 j0 = if cIn i0 0 ((st.hs.length : Int) - 1) = false then (st, 8) else if cIn j0 0 ((st.hs.length : Int) - 1) = false then (st, 8) else if i0 = j0 then (st, 2) else
    (laid st.ns.length (((lists st).set j0.toNat (nth (lists st) j0.toNat ++ nth (lists st) i0.toNat)).set i0.toNat []), 0) by rw [HR.out, if_neg (by simp [hc])])
  generalize dSplice st i0 j0 = R0 at *
  clear HR
  obtain ⟨A, B, C, a, b, c, rfl, rA, rB, rC⟩ := h
  obtain ⟨iT, hiT, hy0, hy1, hy2⟩ := info_parts cint_info
  have n0 : CsAt w (csV A B C a b c st.ns.length st.hs.length st.ts.length) st := ⟨A, B, C, a, b, c, rfl, rA, rB, rC⟩
  have hex : ∀ W : World, Below w.heap.size w W → ∀ cur, CsAt (W.setRow (w.heap.size + 1) cur) (csV A B C a b c st.ns.length st.hs.length st.ts.length) st := fun W hb cur => by
    have hs := hb.size
    have hlt : ∀ (D : Option Addr) (xs : List Value), Rd w w.heap.size D xs → Rd (W.setRow (w.heap.size + 1) cur) (W.setRow (w.heap.size + 1) cur).heap.size D xs := fun D xs r =>
      ((r.below hb).more hs).rowFarN (fun hn ad e => by
        obtain ⟨ad', e', hb', _⟩ := r hn
        rw [e] at e'; injection e' with e'; rw [e']; omega) _
    exact ⟨A, B, C, a, b, c, rfl, hlt _ _ rA, hlt _ _ rB, hlt _ _ rC⟩
  have HEX := hide hex
  clear hex
  have hC := fun (W : World) r r' r'' => r04_Check_any A B C a b c st W h1 h2 h3 r r' r''
  go_enter Try.func15, Try.ntmps15
  go_wp2_with fail
  generalize hV : World.alloc (World.alloc w _) _ = w1
  have hb : Below w.heap.size w w1 := by subst hV; (repeat (first | with_reducible exact Below.refl _ _ | with_reducible assumption | with_reducible refine Below.drew ?_ | with_reducible refine Below.drewN ?_ _ | with_reducible refine Below.alloc1 ?_ _ | with_reducible refine Below.setCell1 ?_ (by first | omega | (simp; done) | (simp; omega)) _ | with_reducible refine Below.step ?_ (by with_reducible assumption)))
  have k3 : Bk w1 w.heap.size 25 (csC A B C a b c st.ns.length st.hs.length st.ts.length) := by subst hV; exact (Bk.new' w 25 (csC A B C a b c st.ns.length st.hs.length st.ts.length) _ rfl).alloc _
  have k6 : Bk w1 (w.heap.size + 1) 25 (csC none none none 0 0 0 0 0 0) := by subst hV; exact Bk.new' (World.alloc w _) 25 (csC none none none 0 0 0 0 0 0) _ (by simp)
  clear hV
  refine (hC _ (rA.step hb) (rB.step hb) (rC.step hb)).mono ?_; rintro e w2 ⟨rfl, hy⟩
  replace k3 := k3.step hy; replace k6 := k6.step hy; replace hb := hb.step hy
  clear hy hC
  have l3 := k3.lt
  have l6 := k6.lt
  by_cases hc : cCheck st = 0
  case neg =>
    have bc : (cCheck st != 0) = true := by simpa using hc
    have hR := hide (HRN.out hc)
    clear HRN HRC hc rA rB rC n0
    generalize cCheck st = cv at *
    go_wp2_with (first | (refine wpList_load_row rfl 25 _ rfl _ rfl _ _ (0, 0) _ k3 Try.underlying25 rfl (by kernel_rfl) ?_) | (refine wpList_store_row rfl 25 _ _ rfl _ (csC A B C a b c st.ns.length st.hs.length st.ts.length).toArray rfl rfl _ _ k6 (by kernel_rfl) (by kernel_rfl) (by kernel_rfl) ?_))
    have r1 := k6.row (csC A B C a b c st.ns.length st.hs.length st.ts.length)
    refine bodyPost_ret (results_row_tmp rfl _ _ (w.heap.size + 1) _ _ _ rfl r1 Try.underlying25 rfl (by kernel_rfl)) rfl ⟨csV A B C a b c st.ns.length st.hs.length st.ts.length, ?_, ?_, setRow_below hb (by omega) _⟩
    · rw [hR.out]; rfl
    · rw [hR.out]; exact HEX.out _ hb _
  obtain ⟨⟨n1, hh1, hh2⟩, bn, bh, bt⟩ := check_bd hc
  obtain ⟨hG, hE⟩ := good_of hc
  have HG := hide hG
  have HE := hide hE
  have HBN := hide (show (∀ x ∈ st.ns, -1 ≤ x.n ∧ x.n ≤ (st.ns.length : Int) - 1) ∧ ∀ x ∈ st.hs, -1 ≤ x ∧ x ≤ (st.ns.length : Int) - 1 from ⟨fun x hx => (bn x hx).2.1, bh⟩)
  have HBL := hide (show ∀ x ∈ st.ns, -1 ≤ x.l ∧ x.l ≤ (st.hs.length : Int) - 1 from fun x hx => (bn x hx).1)
  have HR0 := hide (HRC.out hc)
  have bc : (cCheck st != 0) = false := by simpa using hc
  clear HRN HRC bn bh bt hc hh2 hG hE
  generalize cCheck st = cv at *
  have hI := fun W => r04_is_any A B C a b c st.ns.length st.hs.length st.ts.length i0 W h2
  have hJ := fun W => r04_is_any A B C a b c st.ns.length st.hs.length st.ts.length j0 W h2
  have k3_0 := k3.cell 0; have k3_f0 := k3.frozen 0; have k3_1 := k3.cell 1; have k3_f1 := k3.frozen 1; have k3_2 := k3.cell 2; have k3_f2 := k3.frozen 2; simp only [List.set_cons_zero, List.set_cons_succ, List.getElem?_cons_zero, List.getElem?_cons_succ] at k3_0 k3_1 k3_2; have lt_k3 := k3.lt
  go_wp2_with fail
  refine (hI _).mono ?_; rintro e w3 ⟨rfl, hy⟩
  replace k3 := k3.step hy; (try clear k3_0 k3_f0 k3_1 k3_f1 k3_2 k3_f2); have k3_0 := k3.cell 0; have k3_f0 := k3.frozen 0; have k3_1 := k3.cell 1; have k3_f1 := k3.frozen 1; have k3_2 := k3.cell 2; have k3_f2 := k3.frozen 2; simp only [List.set_cons_zero, List.set_cons_succ, List.getElem?_cons_zero, List.getElem?_cons_succ] at k3_0 k3_1 k3_2; (try clear lt_k3); have lt_k3 := k3.lt
  replace k6 := k6.step hy; replace hb := hb.step hy
  clear hy hI
  have l6 := k6.lt
  cases hv : cIn i0 0 ((st.hs.length : Int) - 1)
  · have hR := hide (show R0 = (st, 8) by rw [HR0.out, if_pos hv])
    clear HR0 hv hJ
    (try clear k3_0 k3_f0 k3_1 k3_f1 k3_2 k3_f2 lt_k3)
    have l3 := k3.lt
    go_wp2_with (first | (refine wpList_load_row rfl 25 _ rfl _ rfl _ _ (0, 0) _ k3 Try.underlying25 rfl (by kernel_rfl) ?_) | (refine wpList_store_row rfl 25 _ _ rfl _ (csC A B C a b c st.ns.length st.hs.length st.ts.length).toArray rfl rfl _ _ k6 (by kernel_rfl) (by kernel_rfl) (by kernel_rfl) ?_))
    have r1 := k6.row (csC A B C a b c st.ns.length st.hs.length st.ts.length)
    refine bodyPost_ret (results_row_tmp rfl _ _ (w.heap.size + 1) _ _ _ rfl r1 Try.underlying25 rfl (by kernel_rfl)) rfl ⟨csV A B C a b c st.ns.length st.hs.length st.ts.length, ?_, ?_, setRow_below hb (by omega) _⟩
    · rw [hR.out]; rfl
    · rw [hR.out]; exact HEX.out _ hb _
  have hbi := cIn_t hv
  obtain ⟨i, rfl⟩ : ∃ i : Nat, i0 = (i : Int) := ⟨i0.toNat, by omega⟩
  have hi : i < st.hs.length := by omega
  have hii : (i : Int) < (st.hs.length : Int) := by omega
  have HR1 := hide (show R0 = if cIn j0 0 ((st.hs.length : Int) - 1) = false then (st, 8) else if (i : Int) = j0 then (st, 2) else
    (laid st.ns.length (((lists st).set j0.toNat (nth (lists st) j0.toNat ++ nth (lists st) i)).set i []), 0) by rw [HR0.out, if_neg (by simp [hv])]; simp)
  clear HR0 hv hbi
  go_wp2_with fail
  refine (hJ _).mono ?_; rintro e w4 ⟨rfl, hy⟩
  replace k3 := k3.step hy; (try clear k3_0 k3_f0 k3_1 k3_f1 k3_2 k3_f2); have k3_0 := k3.cell 0; have k3_f0 := k3.frozen 0; have k3_1 := k3.cell 1; have k3_f1 := k3.frozen 1; have k3_2 := k3.cell 2; have k3_f2 := k3.frozen 2; simp only [List.set_cons_zero, List.set_cons_succ, List.getElem?_cons_zero, List.getElem?_cons_succ] at k3_0 k3_1 k3_2; (try clear lt_k3); have lt_k3 := k3.lt
  replace k6 := k6.step hy; replace hb := hb.step hy
  clear hy hJ
  have l6 := k6.lt
  cases hv : cIn j0 0 ((st.hs.length : Int) - 1)
  · have hR := hide (show R0 = (st, 8) by rw [HR1.out, if_pos hv])
    clear HR1 hv
    (try clear k3_0 k3_f0 k3_1 k3_f1 k3_2 k3_f2 lt_k3)
    have l3 := k3.lt
    go_wp2_with (first | (refine wpList_load_row rfl 25 _ rfl _ rfl _ _ (0, 0) _ k3 Try.underlying25 rfl (by kernel_rfl) ?_) | (refine wpList_store_row rfl 25 _ _ rfl _ (csC A B C a b c st.ns.length st.hs.length st.ts.length).toArray rfl rfl _ _ k6 (by kernel_rfl) (by kernel_rfl) (by kernel_rfl) ?_))
    have r1 := k6.row (csC A B C a b c st.ns.length st.hs.length st.ts.length)
    refine bodyPost_ret (results_row_tmp rfl _ _ (w.heap.size + 1) _ _ _ rfl r1 Try.underlying25 rfl (by kernel_rfl)) rfl ⟨csV A B C a b c st.ns.length st.hs.length st.ts.length, ?_, ?_, setRow_below hb (by omega) _⟩
    · rw [hR.out]; rfl
    · rw [hR.out]; exact HEX.out _ hb _
  have hbi := cIn_t hv
  obtain ⟨j, rfl⟩ : ∃ j : Nat, j0 = (j : Int) := ⟨j0.toNat, by omega⟩
  have hj : j < st.hs.length := by omega
  have hji : (j : Int) < (st.hs.length : Int) := by omega
  have HR2 := hide (show R0 = if i = j then (st, 2) else (laid st.ns.length (((lists st).set j (nth (lists st) j ++ nth (lists st) i)).set i []), 0) by
    rw [HR1.out, if_neg (by simp [hv]), Int.toNat_natCast]
    by_cases e : i = j
    · rw [if_pos (by omega), if_pos e]
    · rw [if_neg (by omega), if_neg e])
  clear HR1 hv hbi
  (try clear k3_0 k3_f0 k3_1 k3_f1 k3_2 k3_f2 lt_k3)
  have l3 := k3.lt
  by_cases hij : i = j
  · have hR := hide (show R0 = (st, 2) by rw [HR2.out, if_pos hij])
    have bij : ((i : Int) == (j : Int)) = true := by simp [hij]
    clear HR2 hij
    go_wp2_with (first | (refine wpList_load_row rfl 25 _ rfl _ rfl _ _ (0, 0) _ k3 Try.underlying25 rfl (by kernel_rfl) ?_) | (refine wpList_store_row rfl 25 _ _ rfl _ (csC A B C a b c st.ns.length st.hs.length st.ts.length).toArray rfl rfl _ _ k6 (by kernel_rfl) (by kernel_rfl) (by kernel_rfl) ?_))
    have r1 := k6.row (csC A B C a b c st.ns.length st.hs.length st.ts.length)
    refine bodyPost_ret (results_row_tmp rfl _ _ (w.heap.size + 1) _ _ _ rfl r1 Try.underlying25 rfl (by kernel_rfl)) rfl ⟨csV A B C a b c st.ns.length st.hs.length st.ts.length, ?_, ?_, setRow_below hb (by omega) _⟩
    · rw [hR.out]; rfl
    · rw [hR.out]; exact HEX.out _ hb _
  have hR := hide (show R0 = (laid st.ns.length (((lists st).set j (nth (lists st) j ++ nth (lists st) i)).set i []), 0) by rw [HR2.out, if_neg hij])
  have bij : ((i : Int) == (j : Int)) = false := by simp; omega
  have hil : i < (lists st).length := by rw [lists_len]; exact hi
  have hjl : j < (lists st).length := by rw [lists_len]; exact hj
  have HLen := hide (show (((lists st).set j (nth (lists st) j ++ nth (lists st) i)).set i []).length ≤ 20 by rw [List.length_set, List.length_set]; have := HG.out.l2; omega)
  have HVl := hide (show Vl st.ns.length (((lists st).set j (nth (lists st) j ++ nth (lists st) i)).set i []) by
    rw [nth_at hil, nth_at hjl]
    rcases HG.out.splice hil hjl with ⟨h5, _⟩ | ⟨_, _, h6⟩
    · exact absurd h5 hij
    · exact h6.vl)
  clear HR2
  have hAl := fun W h => r04_all_any (csV A B C a b c st.ns.length st.hs.length st.ts.length) st W h1 h2 HBN.out.1 HBN.out.2 h
  go_wp2_with (first | (refine wpList_load_row rfl 25 _ rfl _ rfl _ _ (0, 0) _ k3 Try.underlying25 rfl (by kernel_rfl) ?_))
  refine (hAl _ (n0.step hb)).mono ?_; rintro e w5 ⟨O, cO, rs, rfl, ow, R, hy⟩
  replace k3 := k3.step hy; replace k6 := k6.step hy; replace hb := hb.step hy
  clear hy
  have l3 := k3.lt
  have l6 := k6.lt
  obtain ⟨gO, pad, rfl, hgO, _, kO⟩ := own_bk ow (by omega)
  clear ow hAl
  have hir : i < rs.length := by rw [R.len]; exact hil
  have hjr : j < rs.length := by rw [R.len]; exact hjl
  have HNI := hide (nth_at hil)
  have HNJ := hide (nth_at hjl)
  have hl64 : ∀ k (h : k < (lists st).length), (lists st)[k].length ≤ 64 := fun k h => by
    have h5 := (vl_clear HG.out.vl h).2
    have h6 := sub_len (P := List.range st.ns.length) h5.1 (fun x hx => List.mem_range.2 (h5.2.1 x hx))
    have h7 := HG.out.n2
    simp at h6; omega
  have hli := hl64 i hil
  have hlj := hl64 j hjl
  have oi := R.own i hil hir
  have oj := R.own j hjl hjr
  have cI := (Rx.of R kO).cell (i := i) (v := rwV rs[i] (lists st)[i]) (rwR_at hil hir)
  have cJ := (Rx.of R kO).cell (i := j) (v := rwV rs[j] (lists st)[j]) (rwR_at hjl hjr)
  have HR := hide R
  have R0S := hide R.len
  have HKO := hide kO
  have sO := kO.lt
  obtain ⟨Ai, hAi⟩ : ∃ v, Hid (v = rs[i].A) := ⟨_, hide rfl⟩
  obtain ⟨ci, hci⟩ : ∃ v, Hid (v = rs[i].c) := ⟨_, hide rfl⟩
  obtain ⟨li, hlI⟩ : ∃ v, Hid (v = (lists st)[i]) := ⟨_, hide rfl⟩
  obtain ⟨Aj, hAj⟩ : ∃ v, Hid (v = rs[j].A) := ⟨_, hide rfl⟩
  obtain ⟨cj, hcj⟩ : ∃ v, Hid (v = rs[j].c) := ⟨_, hide rfl⟩
  obtain ⟨lj, hlJ⟩ : ∃ v, Hid (v = (lists st)[j]) := ⟨_, hide rfl⟩
  simp only [rwV] at cI oi cJ oj
  rw [← hAi.out, ← hci.out, ← hlI.out] at cI oi
  rw [← hAj.out, ← hcj.out, ← hlJ.out] at cJ oj
  rw [← hlI.out] at hli
  rw [← hlJ.out] at hlj
  have rI := own_rd oi
  clear R kO oi hl64
  have HKK := hide (fun (w6 : World) (hg : w5.drew.grownBy w6 (Value.slice Aj lj.length cj).ownBlock) => show Bk w6 gO 23 (rwR rs (lists st) ++ pad) from HKO.out.drew.kept (v := Value.slice Aj lj.length cj) hg (fun k hk => by
    rw [ownB] at hk
    have hn := (own_ty oj).ne HKO.out (by decide)
    cases Aj with
    | none => cases hk
    | some o => simp at hk; subst hk; exact hn o rfl))
  have HVI := hide (show (rwR rs (lists st) ++ pad)[j]? = some (.slice Aj lj.length cj) by
    rw [List.getElem?_append_left (by rw [rwR_len R0S.out]; exact hjl), rwR_at hjl hjr, hAj.out, hcj.out, hlJ.out])
  have hoj := hide oj
  have hrI := hide rI
  have szb := hb.size
  clear oj rI
  have mixed : Try.prog.follows Departure.mixedOrders = true := by kernel_rfl
  go_upto_region 9 with fail
  go_region_law_o (refine step_app3 rfl (.tmp 41) (.tmp 45) 23 rfl w4.heap.size 3 iT _ 1 8 Try.underlying23 hiT hy0 hy1 hy2 rfl (by omega) Aj lj.length cj (ints (nI lj)) (by simp [Act.eval, Act.put]) hoj.out Ai li.length ci (ints (nI li)) w5.heap.size (by simp [Act.eval, Act.put]) (by simp) hrI.out (ints_one _) (by unfold maxLen; omega) (by omega) (by simp; omega) ?_; intro gN cN w6 own6 hb6 hg6; (have kz := HKK.out w6 hg6); (have cz := (kz.cell j).trans HVI.out); (have fz := kz.frozen j); (have lz := kz.lt))
  all_goals
    have hg7 : w5.drew.grownBy w6 (rwV rs[j] (lists st)[j]).ownBlock := by
      have h9 := hg6
      rw [hAj.out, hlJ.out, hcj.out] at h9
      exact h9
    have own7 : w6.ownsRow w4.heap.size 3 1 (.slice gN (lj ++ li).length cN) (lj ++ li).length (ints (nI (lj ++ li))) := by
      have e : ints (nI (lj ++ li)) = ints (nI lj) ++ ints (nI li) := by simp
      rw [e, List.length_append]; exact own6
    have rx := rx_app (w := w5.drew) ⟨HR.out.len, HR.out.own, HR.out.ap⟩ HKO.out.drew hjl hjr hg7 own7
    rw [show (lists st).set j (lj ++ li) = (lists st).set j (nth (lists st) j ++ nth (lists st) i) by rw [HNJ.out, HNI.out, hlI.out, hlJ.out]] at rx
    have e9 : (lj ++ li).length = lj.length + li.length := by simp
    rw [e9] at rx
    have k3z := ((k3.drew).below hb6 (by omega)).far (p := ⟨gO, j, none⟩) (by dsimp only; omega) (.slice gN (lj.length + li.length) cN)
    have k6z := ((k6.drew).below hb6 (by omega)).far (p := ⟨gO, j, none⟩) (by dsimp only; omega) (.slice gN (lj.length + li.length) cN)
    have hbz : Below w.heap.size w (w6.setCell ⟨gO, j, none⟩ (.slice gN (lj.length + li.length) cN)) := (hb.drew.trans (hb6.mono (by omega))).setCell (by dsimp only; omega) _
    have rx2 := rx.set (i := i) (l := []) (A := none) (c := 0) (b := 0) (by rw [List.length_set]; exact hil) (World.ownsRow_nil _ _ _ _)
    simp only [List.length_nil] at rx2
    have hvi : ((rwR rs (lists st)).set j (.slice gN (lj.length + li.length) cN) ++ pad)[i]? = some (.slice Ai li.length ci) := by
      rw [List.getElem?_append_left (by rw [List.length_set, rwR_len R0S.out]; exact hil), List.getElem?_set_ne (Ne.symm hij), rwR_at hil hir, hAi.out, hci.out, hlI.out]
    have cI2 := (rx.bk.cell i).trans hvi
    have fI2 := rx.bk.frozen i
    have lI2 := rx.bk.lt
    generalize w6.setCell ⟨gO, j, none⟩ (.slice gN (lj.length + li.length) cN) = w7 at *
    clear kz cz fz own6 own7 hg6 hg7 hb6 HKK HVI HR HKO hvi rx e9 hAi hci hlI hAj hcj hlJ k3 k6 hb lz cI cJ hoj hrI
    go_upto_region 11 with fail
    have k3 := k3z.far (p := ⟨gO, i, none⟩) (by dsimp only; omega) (.slice none 0 0)
    have k6 := k6z.far (p := ⟨gO, i, none⟩) (by dsimp only; omega) (.slice none 0 0)
    have hb : Below w.heap.size w (w7.setCell ⟨gO, i, none⟩ (.slice none 0 0)) := hbz.setCell (by dsimp only; omega) _
    generalize w7.setCell ⟨gO, i, none⟩ (.slice none 0 0) = w8 at *
    obtain ⟨rx, hrx⟩ : ∃ p : Rx _ gO pad _ (((lists st).set j (nth (lists st) j ++ nth (lists st) i)).set i []), True := ⟨rx2, trivial⟩
    clear hrx rx2 k3z k6z hbz cI2 fI2 lI2
    have hLd := fun W h => r04_laid_any st.ns.length (some ⟨gO, 0, none⟩) cO (((lists st).set j (nth (lists st) j ++ nth (lists st) i)).set i []) W HG.out.n1 HG.out.n2 HLen.out HVl.out h
    simp only [List.length_set, lists_len] at hLd
    have k3_0 := k3.cell 0; have k3_f0 := k3.frozen 0; have k3_1 := k3.cell 1; have k3_f1 := k3.frozen 1; have k3_2 := k3.cell 2; have k3_f2 := k3.frozen 2; simp only [List.set_cons_zero, List.set_cons_succ, List.getElem?_cons_zero, List.getElem?_cons_succ] at k3_0 k3_1 k3_2; have lt_k3 := k3.lt
    go_wp2_with fail
    refine (hLd _ rx.lss).mono ?_; rintro e wz ⟨V, rfl, hV, hy⟩
    obtain ⟨D1, D2, D3, d1, d2, d3, rfl, sA, sB, sC⟩ := hV
    (try clear k3_0 k3_f0 k3_1 k3_f1 k3_2 k3_f2 lt_k3)
    replace k6 := k6.step hy; replace hb := hb.step hy
    clear hy rx hLd k3
    have l6 := k6.lt
    go_wp2_with ((refine wpList_store_row rfl 25 _ _ rfl _ (csC D1 D2 D3 d1 d2 d3 (laid st.ns.length (((lists st).set j (nth (lists st) j ++ nth (lists st) i)).set i [])).ns.length (laid st.ns.length (((lists st).set j (nth (lists st) j ++ nth (lists st) i)).set i [])).hs.length (laid st.ns.length (((lists st).set j (nth (lists st) j ++ nth (lists st) i)).set i [])).ts.length).toArray rfl rfl _ _ k6 (by kernel_rfl) (by kernel_rfl) (by kernel_rfl) ?_))
    have r1 := k6.row (csC D1 D2 D3 d1 d2 d3 (laid st.ns.length (((lists st).set j (nth (lists st) j ++ nth (lists st) i)).set i [])).ns.length (laid st.ns.length (((lists st).set j (nth (lists st) j ++ nth (lists st) i)).set i [])).hs.length (laid st.ns.length (((lists st).set j (nth (lists st) j ++ nth (lists st) i)).set i [])).ts.length)
    have fin : CsAt (wz.setRow (w.heap.size + 1) (csC D1 D2 D3 d1 d2 d3 (laid st.ns.length (((lists st).set j (nth (lists st) j ++ nth (lists st) i)).set i [])).ns.length (laid st.ns.length (((lists st).set j (nth (lists st) j ++ nth (lists st) i)).set i [])).hs.length (laid st.ns.length (((lists st).set j (nth (lists st) j ++ nth (lists st) i)).set i [])).ts.length).toArray) (csV D1 D2 D3 d1 d2 d3 (laid st.ns.length (((lists st).set j (nth (lists st) j ++ nth (lists st) i)).set i [])).ns.length (laid st.ns.length (((lists st).set j (nth (lists st) j ++ nth (lists st) i)).set i [])).hs.length (laid st.ns.length (((lists st).set j (nth (lists st) j ++ nth (lists st) i)).set i [])).ts.length) (laid st.ns.length (((lists st).set j (nth (lists st) j ++ nth (lists st) i)).set i [])) := ⟨D1, D2, D3, d1, d2, d3, rfl, (sA.row k6 (by decide) _).rd, (sB.row k6 (by decide) _).rd, (sC.row k6 (by decide) _).rd⟩
    refine bodyPost_ret (results_row_tmp rfl _ _ (w.heap.size + 1) _ _ _ rfl r1 Try.underlying25 rfl (by kernel_rfl)) rfl ⟨csV D1 D2 D3 d1 d2 d3 (laid st.ns.length (((lists st).set j (nth (lists st) j ++ nth (lists st) i)).set i [])).ns.length (laid st.ns.length (((lists st).set j (nth (lists st) j ++ nth (lists st) i)).set i [])).hs.length (laid st.ns.length (((lists st).set j (nth (lists st) j ++ nth (lists st) i)).set i [])).ts.length, ?_, ?_, setRow_below hb (by omega) _⟩
    · rw [hR.out]; rfl
    · rw [hR.out]; exact fin
end Go.Proofs.Ythicpjfdljgfpaa

/- Package callboyref04: Turn. -/
namespace Go.Proofs.Ythicpjfdljgfpaa
open Go.RowKit Go.Sort
set_option linter.unusedSimpArgs false
set_option linter.unusedVariables false

theorem gr_setCell (w : World) (a : Addr) (u : Value) : w.grownBy (w.setCell a u) (some a.block) := Gr.set_ (Gr.refl w (some a.block)) (.inl rfl) u
theorem own_dr {w : World} {base : Nat} {e : TypeId} {size : Nat} {v : Value} {n : Nat} {xs : List Value} {o : Obj} (h : (w.alloc o).ownsRow base e size v n xs) : (w.drew.alloc o).ownsRow base e size v n xs := h
theorem step_turn {P : Program} {w : World} {ops : Array Oper} {o : Oper} {a : Act} {K : Act → World → Prop} {Q : Exit → Act → World → Prop} {E : Prop} (hgd : o.guard = none) (s x : Operand) (t : TypeId)
    (ho : o.op = .call { callee := .builtin .append, args := #[s, x], argTypes := #[t, t] })
    (e : TypeId) (i : TypeInfo) (z : Value) (bytes : Nat) (ht : P.underlying t = some (.slice e)) (hi : P.info? e = some i) (hz : i.zero = some z)
    (hsize : i.size = 1) (hby : i.bytes = bytes) (hzs : z.cells.size = 1)
    (b g n c : Nat) (xs : List Value) (hn : 0 < n) (hown : w.ownsRow b e 1 (.slice (some ⟨g, 0, none⟩) n c) n xs)
    (A2 : Option Addr) (hA2 : (A2 = some ⟨g, 0, none⟩ ∧ c = 1) ∨ A2 = some ((⟨g, 0, none⟩ : Addr).add (1 * 1))) (hs : a.eval s = .slice A2 (n - 1) (c - 1))
    (ad : Addr) (c' : Nat) (v : Value) (hx : a.eval x = .slice (some ad) 1 c') (hv : w.cell? (ad.add 0) = some v) (h1 : v.oneCell' = true)
    (h63 : n ≤ maxLen) (hbytes : n * bytes ≤ 140737488355328)
    (h : ∀ A' cap w', Rd w' w'.heap.size A' (xs.drop 1 ++ [v]) → TyA w' e A' → w.grownBy w' (some g) → K (a.put o.dst (.slice A' n cap)) w') :
    if Region.wanted o (yielded ops a.tmps) = true then Oper.wp P o a w K Q else E := by
  have hw : Region.wanted o (yielded ops a.tmps) = true := by simp [Region.wanted, hgd]
  rw [if_pos hw]
  have hl := hown.1
  obtain ⟨g', pad, hg', hbg, hnc, hk⟩ := own_bk hown hn
  injection hg' with hg'; injection hg' with hg'; subst hg'
  have hcap : (xs ++ pad).length = c := by
    rcases hown.2 with ⟨hv, _⟩ | ⟨g2, cap, cur, hv, _, hh, _, _, hsz, _⟩
    · cases hv
    · injection hv with e1 _ e3
      injection e1 with e1; injection e1 with e1; subst e1 e3
      have e4 := hk
      unfold Bk at e4
      rw [hh] at e4
      injection e4 with e4; injection e4 with e4
      rw [e4] at hsz
      simpa using hsz
  have hnews : ∀ j u, [v][j]? = some u → w.cell? (ad.add j) = some u := by
    intro j u hu
    cases j with
    | zero => simp at hu; subst hu; exact hv
    | succ j => simp at hu
  have h1' : ∀ u ∈ [v], u.oneCell' = true := by intro u hu; simp at hu; subst hu; exact h1
  have hxl : xs.length = n := by rw [hl]; omega
  have holds : ∀ ad2, A2 = some ad2 → ∀ j u, (xs.drop 1)[j]? = some u → w.cell? (ad2.add j) = some u := by
    intro ad2 e2 j u hu
    rcases hA2 with ⟨h2, h3⟩ | h2
    · have : xs.drop 1 = [] := List.drop_eq_nil_of_le (by omega)
      rw [this] at hu; simp at hu
    · rw [h2] at e2; injection e2 with e2; subst e2
      rw [show ((⟨g, 0, none⟩ : Addr).add (1 * 1)).add j = ⟨g, 1 + j, none⟩ by simp [Addr.add], hk.cell, List.getElem?_append_left (by
        have := (List.getElem?_eq_some_iff.1 hu).1
        simp at this; omega)]
      rw [List.getElem?_drop] at hu
      exact hu
  by_cases hc : c = n
  · have hgrow : c - 1 < (n - 1) + 1 := by omega
    have hnone : ∃ ad2, A2 = some ad2 := by
      rcases hA2 with ⟨h2, _⟩ | h2
      · exact ⟨_, h2⟩
      · exact ⟨_, h2⟩
    obtain ⟨ad2, rfl⟩ := hnone
    obtain ⟨v', w', hrun, r1, r2⟩ := run_append_arg_grows (P := P) w t o.type e i z 1 bytes ht hi hz hsize hby hzs (by omega) ad2 (n - 1) (c - 1) (xs.drop 1) (by simp; omega) (holds ad2 rfl) ad 1 c' [v] rfl hnews hgrow (by omega) (by rw [show n - 1 + 1 = n by omega]; exact hbytes)
    unfold Oper.wp
    simp [execOp, ho, resolve, invoke, builtin, hs, hx, hrun, Result.andThen]
    obtain ⟨A', cap, rfl⟩ := own_form r1
    rw [show n - 1 + 1 = n by omega] at r1 ⊢
    exact h A' cap w' (own_rd r1) (own_ty r1) ⟨r2.os, r2.tape, r2.output, r2.size, fun k hk _ => r2.block k hk (by simp)⟩
  · have hA3 : A2 = some ⟨g, 1, none⟩ := by
      rcases hA2 with ⟨_, h3⟩ | h2
      · omega
      · rw [h2]; simp [Addr.add]
    subst hA3
    have hpad : 0 < pad.length := by rw [List.length_append] at hcap; omega
    have hrun := fun ty => run_append_room_cells (P := P) w t ty e i ht hi g 1 (n - 1) (c - 1) ad 1 c' [v] (by simp [hsize]) hnews h1' (by omega)
      (fun j hj => by
        simp at hj; subst hj
        rw [hsize, hk.cell, List.getElem?_eq_getElem (by omega)]; rfl)
      (fun j hj => hk.frozen _)
    rw [hsize, show 1 + (n - 1) * 1 = n by omega] at hrun
    unfold Oper.wp
    simp [execOp, ho, resolve, invoke, builtin, hs, hx, hrun, Result.andThen]
    rw [show n - 1 + 1 = n by omega]
    show K _ (w.setCell ⟨g, n, none⟩ v)
    have hk2 := hk.set_ n v
    refine h (some ⟨g, 1, none⟩) (c - 1) _ ?_ (fun ad2 e2 => ?_) (gr_setCell w ⟨g, n, none⟩ v)
    · have e3 : (xs ++ pad).set n v = (xs ++ [v]) ++ pad.drop 1 := by
        rw [List.set_append_right _ _ (by omega), show n - xs.length = 0 by omega]
        cases pad with
        | nil => simp at hpad
        | cons y r => simp
      rw [e3] at hk2
      have r3 := hk2.rdp.drop 1
      rw [List.drop_append_of_le_length (by omega)] at r3
      exact r3
    · injection e2 with e2; subst e2
      exact ⟨_, _, hk2⟩
theorem lss_turn {w w' : World} {b gO i c : Nat} {rs : List Rw} {L : List (List Nat)} {pad : List Value} {l : List Nat} {A : Option Addr} {row : Option Nat} (R : Rws w b rs L) (k : Bk w gO 23 (rwR rs L ++ pad)) (hi : i < L.length) (hi' : i < rs.length)
    (hr : row = (rwV rs[i] L[i]).ownBlock) (hg : w.grownBy w' row) (hv : Rd w' w'.heap.size A (ints (nI l))) (hty : TyA w' 3 A) : Lss (w'.setCell ⟨gO, i, none⟩ (.slice A l.length c)) (some ⟨gO, 0, none⟩) (L.set i l) := by
  subst hr
  have hty0 := own_ty (R.own i hi hi')
  have k' : Bk w' gO 23 (rwR rs L ++ pad) := k.kept hg (fun j hj => by
    rw [ownB] at hj
    have hn := hty0.ne k (by decide)
    cases hA : rs[i].A with
    | none => rw [hA] at hj; cases hj
    | some o => rw [hA] at hj; simp at hj; subst hj; exact hn o hA)
  have hlen := rwR_len R.len
  have k2 : Bk (w'.setCell ⟨gO, i, none⟩ (.slice A l.length c)) gO 23 ((rwR rs L).set i (.slice A l.length c) ++ pad) := by
    have := k'.set_ i (.slice A l.length c)
    rwa [List.set_append_left _ _ (by rw [hlen]; exact hi)] at this
  refine ⟨(rwR rs L).set i (.slice A l.length c), by simp [hlen], k2.rdp, fun j hj => ?_⟩
  simp at hj
  have hsz : (w'.setCell ⟨gO, i, none⟩ (.slice A l.length c)).heap.size = w'.heap.size := by simp
  by_cases hij : i = j
  · subst hij
    refine ⟨A, c, by simp [hlen, hi], ?_⟩
    rw [List.getElem_set_self, hsz]
    exact hv.keep1 (hty.ne k' (by decide)) _
  · have hj2 : j < rs.length := by rw [R.len]; exact hj
    refine ⟨rs[j].A, rs[j].c, ?_, ?_⟩
    · rw [List.getElem?_set_ne hij, rwR_at hj hj2, List.getElem_set_ne hij]
    · rw [List.getElem_set_ne hij]
      exact own_rd (own_bside (own_kept (R.own j hj hj2) hg (fun ad e => by
        rw [ownB]
        cases hA : rs[i].A with
        | none => simp
        | some o => simp; exact R.ap i j hi' hj2 hij o ad hA e)) k' (by decide) _ _)
set_option maxRecDepth 100000 in
set_option maxHeartbeats 8000000 in
theorem r04_Turn_at (V : Value) (st : Ch) (list : Int) (w : World) (h1 : st.ns.length ≤ 1000) (h2 : st.hs.length ≤ 1000) (h3 : st.ts.length ≤ 1000) (h : CsAt w V st) : Calls Try.prog 19 #[V, .int .i64 list] w fun e w' => ∃ V', e = .returned V' ∧ CsAt w' V' (dTurn st list) ∧ Below w.heap.size w w' := by
  have HR := hide (show dTurn st list = if cCheck st ≠ 0 then st else if cIn list 0 ((st.hs.length : Int) - 1) = false then st else if st.hs.getD list.toNat (-1) < 0 then st else
    laid st.ns.length ((lists st).set list.toNat ((nth (lists st) list.toNat).tail ++ (nth (lists st) list.toNat).take 1)) from rfl)
  have HRN := hide (fun hc : ¬ cCheck st = 0 => show dTurn st list = st by rw [HR.out, if_pos hc])
  have HRC := hide (fun hc : cCheck st = 0 => show dTurn st list = if cIn list 0 ((st.hs.length : Int) - 1) = false then st else if st.hs.getD list.toNat (-1) < 0 then st else
    laid st.ns.length ((lists st).set list.toNat ((nth (lists st) list.toNat).tail ++ (nth (lists st) list.toNat).take 1)) by rw [HR.out, if_neg (by simp [hc])])
  generalize dTurn st list = R0 at *
  clear HR
  obtain ⟨A, B, C, a, b, c, rfl, rA, rB, rC⟩ := h
  obtain ⟨iT, hiT, hy0, hy1, hy2⟩ := info_parts cint_info
  have n0 : CsAt w (csV A B C a b c st.ns.length st.hs.length st.ts.length) st := ⟨A, B, C, a, b, c, rfl, rA, rB, rC⟩
  have hex : ∀ W : World, Below w.heap.size w W → ∀ cur, CsAt (W.setRow (w.heap.size + 1) cur) (csV A B C a b c st.ns.length st.hs.length st.ts.length) st := fun W hb cur => by
    have hs := hb.size
    have hlt : ∀ (D : Option Addr) (xs : List Value), Rd w w.heap.size D xs → Rd (W.setRow (w.heap.size + 1) cur) (W.setRow (w.heap.size + 1) cur).heap.size D xs := fun D xs r =>
      ((r.below hb).more hs).rowFarN (fun hn ad e => by
        obtain ⟨ad', e', hb', _⟩ := r hn
        rw [e] at e'; injection e' with e'; rw [e']; omega) _
    exact ⟨A, B, C, a, b, c, rfl, hlt _ _ rA, hlt _ _ rB, hlt _ _ rC⟩
  have HEX := hide hex
  clear hex
  have hC := fun (W : World) r r' r'' => r04_Check_any A B C a b c st W h1 h2 h3 r r' r''
  go_enter Try.func19, Try.ntmps19
  go_wp2_with fail
  generalize hV : World.alloc (World.alloc w _) _ = w1
  have hb : Below w.heap.size w w1 := by subst hV; (repeat (first | with_reducible exact Below.refl _ _ | with_reducible assumption | with_reducible refine Below.drew ?_ | with_reducible refine Below.drewN ?_ _ | with_reducible refine Below.alloc1 ?_ _ | with_reducible refine Below.setCell1 ?_ (by first | omega | (simp; done) | (simp; omega)) _ | with_reducible refine Below.step ?_ (by with_reducible assumption)))
  have k3 : Bk w1 w.heap.size 25 (csC A B C a b c st.ns.length st.hs.length st.ts.length) := by subst hV; exact (Bk.new' w 25 (csC A B C a b c st.ns.length st.hs.length st.ts.length) _ rfl).alloc _
  have k6 : Bk w1 (w.heap.size + 1) 25 (csC none none none 0 0 0 0 0 0) := by subst hV; exact Bk.new' (World.alloc w _) 25 (csC none none none 0 0 0 0 0 0) _ (by simp)
  clear hV
  refine (hC _ (rA.step hb) (rB.step hb) (rC.step hb)).mono ?_; rintro e w2 ⟨rfl, hy⟩
  replace k3 := k3.step hy; replace k6 := k6.step hy; replace hb := hb.step hy
  clear hy hC
  have l3 := k3.lt
  have l6 := k6.lt
  by_cases hc : cCheck st = 0
  case neg =>
    have bc : (cCheck st != 0) = true := by simpa using hc
    have hR := hide (HRN.out hc)
    clear HRN HRC hc rA rB rC n0
    generalize cCheck st = cv at *
    go_wp2_with (first | (refine wpList_load_row rfl 25 _ rfl _ rfl _ _ (0, 0) _ k3 Try.underlying25 rfl (by kernel_rfl) ?_) | (refine wpList_store_row rfl 25 _ _ rfl _ (csC A B C a b c st.ns.length st.hs.length st.ts.length).toArray rfl rfl _ _ k6 (by kernel_rfl) (by kernel_rfl) (by kernel_rfl) ?_))
    have r1 := k6.row (csC A B C a b c st.ns.length st.hs.length st.ts.length)
    refine bodyPost_ret (v := .agg (csC A B C a b c st.ns.length st.hs.length st.ts.length).toArray) (results_cell_row rfl _ _ _ _ _ (0, 0) _ rfl r1 Try.underlying25 rfl (by kernel_rfl)) rfl ⟨csV A B C a b c st.ns.length st.hs.length st.ts.length, rfl, ?_, setRow_below hb (by omega) _⟩
    rw [hR.out]; exact HEX.out _ hb _
  obtain ⟨⟨n1, hh1, hh2⟩, bn, bh, bt⟩ := check_bd hc
  obtain ⟨hG, hE⟩ := good_of hc
  have HG := hide hG
  have HE := hide hE
  have HBN := hide (show (∀ x ∈ st.ns, -1 ≤ x.n ∧ x.n ≤ (st.ns.length : Int) - 1) ∧ ∀ x ∈ st.hs, -1 ≤ x ∧ x ≤ (st.ns.length : Int) - 1 from ⟨fun x hx => (bn x hx).2.1, bh⟩)
  have HBL := hide (show ∀ x ∈ st.ns, -1 ≤ x.l ∧ x.l ≤ (st.hs.length : Int) - 1 from fun x hx => (bn x hx).1)
  have HR0 := hide (HRC.out hc)
  have bc : (cCheck st != 0) = false := by simpa using hc
  clear HRN HRC bn bh bt hc hh2 hG hE
  generalize cCheck st = cv at *
  have hI := fun W => r04_is_any A B C a b c st.ns.length st.hs.length st.ts.length list W h2
  have k3_0 := k3.cell 0; have k3_f0 := k3.frozen 0; have k3_1 := k3.cell 1; have k3_f1 := k3.frozen 1; have k3_2 := k3.cell 2; have k3_f2 := k3.frozen 2; simp only [List.set_cons_zero, List.set_cons_succ, List.getElem?_cons_zero, List.getElem?_cons_succ] at k3_0 k3_1 k3_2; have lt_k3 := k3.lt
  go_wp2_with fail
  refine (hI _).mono ?_; rintro e w3 ⟨rfl, hy⟩
  replace k3 := k3.step hy; (try clear k3_0 k3_f0 k3_1 k3_f1 k3_2 k3_f2); have k3_0 := k3.cell 0; have k3_f0 := k3.frozen 0; have k3_1 := k3.cell 1; have k3_f1 := k3.frozen 1; have k3_2 := k3.cell 2; have k3_f2 := k3.frozen 2; simp only [List.set_cons_zero, List.set_cons_succ, List.getElem?_cons_zero, List.getElem?_cons_succ] at k3_0 k3_1 k3_2; (try clear lt_k3); have lt_k3 := k3.lt
  replace k6 := k6.step hy; replace hb := hb.step hy
  clear hy hI
  have l6 := k6.lt
  cases hv : cIn list 0 ((st.hs.length : Int) - 1)
  · have hR := hide (show R0 = st by rw [HR0.out, if_pos hv])
    clear HR0 hv
    (try clear k3_0 k3_f0 k3_1 k3_f1 k3_2 k3_f2 lt_k3)
    have l3 := k3.lt
    go_wp2_with (first | (refine wpList_load_row rfl 25 _ rfl _ rfl _ _ (0, 0) _ k3 Try.underlying25 rfl (by kernel_rfl) ?_) | (refine wpList_store_row rfl 25 _ _ rfl _ (csC A B C a b c st.ns.length st.hs.length st.ts.length).toArray rfl rfl _ _ k6 (by kernel_rfl) (by kernel_rfl) (by kernel_rfl) ?_))
    have r1 := k6.row (csC A B C a b c st.ns.length st.hs.length st.ts.length)
    refine bodyPost_ret (v := .agg (csC A B C a b c st.ns.length st.hs.length st.ts.length).toArray) (results_cell_row rfl _ _ _ _ _ (0, 0) _ rfl r1 Try.underlying25 rfl (by kernel_rfl)) rfl ⟨csV A B C a b c st.ns.length st.hs.length st.ts.length, rfl, ?_, setRow_below hb (by omega) _⟩
    rw [hR.out]; exact HEX.out _ hb _
  have hbi := cIn_t hv
  obtain ⟨i, rfl⟩ : ∃ i : Nat, list = (i : Int) := ⟨list.toNat, by omega⟩
  have hi : i < st.hs.length := by omega
  have hii : (i : Int) < (st.hs.length : Int) := by omega
  have HR1 := hide (show R0 = if st.hs[i] < 0 then st else laid st.ns.length ((lists st).set i ((nth (lists st) i).tail ++ (nth (lists st) i).take 1)) by
    have e : st.hs.getD i (-1) = st.hs[i] := by simp [List.getD, hi]
    rw [HR0.out, if_neg (by simp [hv]), Int.toNat_natCast, e])
  have HHD := hide (show st.hs[i] = hd (nth (lists st) i) by
    have h5 := hs_at (n := st.ns.length) (L := lists st) (i := i) (by rw [lists_len]; exact hi)
    rw [← HE.out, List.getElem?_eq_getElem hi] at h5
    injection h5)
  clear HR0 hv hbi
  obtain ⟨bd, rfl, _, hcb⟩ := (rB.step hb).at_ (k := i) (by simpa using hi)
  rw [ints_get st.hs i hi] at hcb
  generalize st.hs[i] = x at *
  by_cases hl : x < 0
  · have hR := hide (show R0 = st by rw [HR1.out, if_pos hl])
    have bl : decide (x < 0) = true := by simpa using hl
    clear HR1 HHD hl
    go_upto_region 2 with fail
    (try clear k3_0 k3_f0 k3_1 k3_f1 k3_2 k3_f2 lt_k3)
    have l3 := k3.lt
    go_wp2_with (first | (refine wpList_load_row rfl 25 _ rfl _ rfl _ _ (0, 0) _ k3 Try.underlying25 rfl (by kernel_rfl) ?_) | (refine wpList_store_row rfl 25 _ _ rfl _ (csC A (some bd) C a b c st.ns.length st.hs.length st.ts.length).toArray rfl rfl _ _ k6 (by kernel_rfl) (by kernel_rfl) (by kernel_rfl) ?_))
    have r1 := k6.row (csC A (some bd) C a b c st.ns.length st.hs.length st.ts.length)
    refine bodyPost_ret (v := .agg (csC A (some bd) C a b c st.ns.length st.hs.length st.ts.length).toArray) (results_cell_row rfl _ _ _ _ _ (0, 0) _ rfl r1 Try.underlying25 rfl (by kernel_rfl)) rfl ⟨csV A (some bd) C a b c st.ns.length st.hs.length st.ts.length, rfl, ?_, setRow_below hb (by omega) _⟩
    rw [hR.out]; exact HEX.out _ hb _
  have hR := hide (show R0 = laid st.ns.length ((lists st).set i ((nth (lists st) i).tail ++ (nth (lists st) i).take 1)) by rw [HR1.out, if_neg hl])
  have bl : decide (x < 0) = false := by simpa using hl
  have hil : i < (lists st).length := by rw [lists_len]; exact hi
  have HLen := hide (show ((lists st).set i ((nth (lists st) i).tail ++ (nth (lists st) i).take 1)).length ≤ 20 by rw [List.length_set]; have := HG.out.l2; omega)
  have HVl := hide (show Vl st.ns.length ((lists st).set i ((nth (lists st) i).tail ++ (nth (lists st) i).take 1)) by
    rw [nth_at hil]
    exact (HG.out.turn hil).2.vl)
  obtain ⟨f, tl, hft⟩ : ∃ f tl, (lists st)[i] = f :: tl := by
    have h6 := HHD.out
    rw [nth_at hil] at h6
    cases hn : (lists st)[i] with
    | nil => rw [hn] at h6; simp only [hd] at h6; omega
    | cons y m => exact ⟨y, m, rfl⟩
  clear HR1 HHD hl
  have mixed : Try.prog.follows Departure.mixedOrders = true := by kernel_rfl
  go_upto_region 3 with fail
  clear bl hcb
  (try clear k3_0 k3_f0 k3_1 k3_f1 k3_2 k3_f2 lt_k3)
  have l3 := k3.lt
  have hAl := fun W h => r04_all_any (csV A (some bd) C a b c st.ns.length st.hs.length st.ts.length) st W h1 h2 HBN.out.1 HBN.out.2 h
  go_wp2_with (first | (refine wpList_load_row rfl 25 _ rfl _ rfl _ _ (0, 0) _ k3 Try.underlying25 rfl (by kernel_rfl) ?_))
  refine (hAl _ (n0.step hb)).mono ?_; rintro e w5 ⟨O, cO, rs, rfl, ow, R, hy⟩
  replace k3 := k3.step hy; replace k6 := k6.step hy; replace hb := hb.step hy
  clear hy
  have l3 := k3.lt
  have l6 := k6.lt
  obtain ⟨gO, pad, rfl, hgO, _, kO⟩ := own_bk ow (by omega)
  clear ow hAl
  have hir : i < rs.length := by rw [R.len]; exact hil
  have HNI := hide (nth_at hil)
  have hli : (lists st)[i].length ≤ 64 := by
    have h5 := (vl_clear HG.out.vl hil).2
    have h6 := sub_len (P := List.range st.ns.length) h5.1 (fun x hx => List.mem_range.2 (h5.2.1 x hx))
    have h7 := HG.out.n2
    simp at h6; omega
  have oi := R.own i hil hir
  have cI := (Rx.of R kO).cell (i := i) (v := rwV rs[i] (lists st)[i]) (rwR_at hil hir)
  have HR := hide R
  have R0S := hide R.len
  have HKO := hide kO
  have sO := kO.lt
  simp only [rwV] at cI oi
  obtain ⟨gI, pI, hgI, hbI, hcI, kI⟩ := own_bk oi (by rw [hft]; simp)
  have HAI := hide hgI
  rw [hgI] at cI oi
  obtain ⟨ci, hci⟩ : ∃ v, Hid (v = rs[i].c) := ⟨_, hide rfl⟩
  obtain ⟨li, hlI⟩ : ∃ v, Hid (v = (lists st)[i]) := ⟨_, hide rfl⟩
  rw [← hci.out, ← hlI.out] at cI oi
  rw [← hci.out, ← hlI.out] at hcI
  rw [← hlI.out] at hli hft
  have hl0 : 0 < li.length := by rw [hft]; simp
  have hl0i : (0 : Int) < (li.length : Int) := by omega
  have cF : w5.cell? ⟨gI, 0, none⟩ = some (.int .i64 (f : Int)) := by
    rw [kI.cell, ← hlI.out, hft]; simp
  have sI := kI.lt
  have hneI : gI ≠ gO := fun e => (own_ty oi).ne kO (by decide) _ rfl e
  have hel : Try.prog.elem 23 = 3 := by kernel_rfl
  have hsz : ∀ W, (sizeOf 3).run Try.prog W = .ok 1 W := fun W => rfl
  obtain ⟨A2, hA2, sf1, sf2⟩ := from_run Try.underlying23 hel hsz ⟨gI, 0, none⟩ 1 li.length ci 1 (by omega) (by omega) (by omega)
  have HA2 := hide (show (A2 = some ⟨gI, 0, none⟩ ∧ ci = 1) ∨ A2 = some ((⟨gI, 0, none⟩ : Addr).add (1 * 1)) from hA2)
  have hoi := hide oi
  have HKK := hide (fun (w6 : World) (o : Obj) (hg : (w5.drew.alloc o).grownBy w6 (some gI)) => show Bk w6 gO 23 (rwR rs (lists st) ++ pad) from (HKO.out.drew.alloc o).kept (v := Value.slice (some ⟨gI, 0, none⟩) li.length ci) hg (fun k hk => by
    simp [Value.ownBlock] at hk; omega))
  have HVI := hide (show (rwR rs (lists st) ++ pad)[i]? = some (.slice (some ⟨gI, 0, none⟩) li.length ci) by
    rw [List.getElem?_append_left (by rw [rwR_len R0S.out]; exact hil), rwR_at hil hir, ← HAI.out, hci.out, hlI.out])
  have szb := hb.size
  have HFT := hide hft
  clear R kO oi kI hgI hA2 hel hsz hft
  go_upto_region 4 with fail
  go_region_law_o (refine step_turn rfl (.tmp 32) (.tmp 39) 23 rfl 3 iT _ 8 Try.underlying23 hiT hy0 hy1 hy2 rfl w3.heap.size gI li.length ci (ints (nI li)) hl0 (own_dr (hoi.out.alloc _)) A2 HA2.out (by simp [Act.eval, Act.put]) ⟨w5.heap.size, 0, none⟩ 1 (.int .i64 (f : Int)) (by simp [Act.eval, Act.put]) (news_at (cs := [_]) 0 _ rfl) rfl (by unfold maxLen; omega) (by omega) ?_; intro AN cN w6 rd6 ty6 hg6; (have kz := HKK.out w6 _ hg6); (have cz := (kz.cell i).trans HVI.out); (have fz := kz.frozen i); (have lz := kz.lt))
  all_goals
    have e9 : (tl ++ [f]).length = li.length := by rw [HFT.out]; simp
    have rd7 : Rd w6 w6.heap.size AN (ints (nI (tl ++ [f]))) := by
      have e : ints (nI (tl ++ [f])) = List.drop 1 (ints (nI li)) ++ [Value.int IntKind.i64 (f : Int)] := by rw [HFT.out]; simp
      rw [e]; exact rd6
    have hls := lss_turn (w := (w5.alloc (.cells #[.int .i64 (f : Int)] 3)).drew) (l := tl ++ [f]) (c := cN) (A := AN) (row := some gI) ⟨(HR.out.step ((Below.refl w5.heap.size w5).alloc1 (.cells #[.int .i64 (f : Int)] 3))).len, (HR.out.step ((Below.refl w5.heap.size w5).alloc1 (.cells #[.int .i64 (f : Int)] 3))).own, (HR.out.step ((Below.refl w5.heap.size w5).alloc1 (.cells #[.int .i64 (f : Int)] 3))).ap⟩ (HKO.out.alloc (.cells #[.int .i64 (f : Int)] 3)).drew hil hir (by rw [ownB, HAI.out]; rfl) hg6 rd7 ty6
    rw [e9, show (lists st).set i (tl ++ [f]) = (lists st).set i ((nth (lists st) i).tail ++ (nth (lists st) i).take 1) by rw [HNI.out, ← hlI.out, HFT.out]; rfl] at hls
    have hbI6 : Below w3.heap.size ((w5.alloc (.cells #[.int .i64 (f : Int)] 3)).drew) w6 := (Below.refl _ _).grown hg6 (by show _ ≤ (w5.alloc (.cells #[.int .i64 (f : Int)] 3)).heap.size; simp; omega) (fun k hk => by injection hk with hk; omega)
    replace k3 := (((k3.alloc (.cells #[.int .i64 (f : Int)] 3)).drew).below hbI6 (by omega)).far (p := ⟨gO, i, none⟩) (by dsimp only; omega) (.slice AN li.length cN)
    replace k6 := (((k6.alloc (.cells #[.int .i64 (f : Int)] 3)).drew).below hbI6 (by omega)).far (p := ⟨gO, i, none⟩) (by dsimp only; omega) (.slice AN li.length cN)
    replace hb : Below w.heap.size w (w6.setCell ⟨gO, i, none⟩ (.slice AN li.length cN)) := (((hb.alloc (by omega) (.cells #[.int .i64 (f : Int)] 3)).drew).trans (hbI6.mono (by omega))).setCell (by dsimp only; omega) _
    generalize w6.setCell ⟨gO, i, none⟩ (.slice AN li.length cN) = w7 at *
    clear kz cz fz rd6 rd7 ty6 hg6 hbI6 HKK HVI HR HKO cI cF hoi HFT HAI hci hlI sf1 sf2 HA2 e9
    have hLd := fun W h => r04_laid_any st.ns.length (some ⟨gO, 0, none⟩) cO ((lists st).set i ((nth (lists st) i).tail ++ (nth (lists st) i).take 1)) W HG.out.n1 HG.out.n2 HLen.out HVl.out h
    simp only [List.length_set, lists_len] at hLd
    have k3_0 := k3.cell 0; have k3_f0 := k3.frozen 0; have k3_1 := k3.cell 1; have k3_f1 := k3.frozen 1; have k3_2 := k3.cell 2; have k3_f2 := k3.frozen 2; simp only [List.set_cons_zero, List.set_cons_succ, List.getElem?_cons_zero, List.getElem?_cons_succ] at k3_0 k3_1 k3_2; have lt_k3 := k3.lt
    go_wp2_with fail
    refine (hLd _ hls).mono ?_; rintro e wz ⟨V, rfl, hV, hy⟩
    obtain ⟨D1, D2, D3, d1, d2, d3, rfl, sA, sB, sC⟩ := hV
    (try clear k3_0 k3_f0 k3_1 k3_f1 k3_2 k3_f2 lt_k3)
    replace k6 := k6.step hy; replace hb := hb.step hy
    clear hy hls hLd k3
    have l6 := k6.lt
    go_wp2_with ((refine wpList_store_row rfl 25 _ _ rfl _ (csC D1 D2 D3 d1 d2 d3 (laid st.ns.length ((lists st).set i ((nth (lists st) i).tail ++ (nth (lists st) i).take 1))).ns.length (laid st.ns.length ((lists st).set i ((nth (lists st) i).tail ++ (nth (lists st) i).take 1))).hs.length (laid st.ns.length ((lists st).set i ((nth (lists st) i).tail ++ (nth (lists st) i).take 1))).ts.length).toArray rfl rfl _ _ k6 (by kernel_rfl) (by kernel_rfl) (by kernel_rfl) ?_))
    have r1 := k6.row (csC D1 D2 D3 d1 d2 d3 (laid st.ns.length ((lists st).set i ((nth (lists st) i).tail ++ (nth (lists st) i).take 1))).ns.length (laid st.ns.length ((lists st).set i ((nth (lists st) i).tail ++ (nth (lists st) i).take 1))).hs.length (laid st.ns.length ((lists st).set i ((nth (lists st) i).tail ++ (nth (lists st) i).take 1))).ts.length)
    have fin : CsAt (wz.setRow (w.heap.size + 1) (csC D1 D2 D3 d1 d2 d3 (laid st.ns.length ((lists st).set i ((nth (lists st) i).tail ++ (nth (lists st) i).take 1))).ns.length (laid st.ns.length ((lists st).set i ((nth (lists st) i).tail ++ (nth (lists st) i).take 1))).hs.length (laid st.ns.length ((lists st).set i ((nth (lists st) i).tail ++ (nth (lists st) i).take 1))).ts.length).toArray) (csV D1 D2 D3 d1 d2 d3 (laid st.ns.length ((lists st).set i ((nth (lists st) i).tail ++ (nth (lists st) i).take 1))).ns.length (laid st.ns.length ((lists st).set i ((nth (lists st) i).tail ++ (nth (lists st) i).take 1))).hs.length (laid st.ns.length ((lists st).set i ((nth (lists st) i).tail ++ (nth (lists st) i).take 1))).ts.length) (laid st.ns.length ((lists st).set i ((nth (lists st) i).tail ++ (nth (lists st) i).take 1))) := ⟨D1, D2, D3, d1, d2, d3, rfl, (sA.row k6 (by decide) _).rd, (sB.row k6 (by decide) _).rd, (sC.row k6 (by decide) _).rd⟩
    refine bodyPost_ret (v := .agg (csC D1 D2 D3 d1 d2 d3 (laid st.ns.length ((lists st).set i ((nth (lists st) i).tail ++ (nth (lists st) i).take 1))).ns.length (laid st.ns.length ((lists st).set i ((nth (lists st) i).tail ++ (nth (lists st) i).take 1))).hs.length (laid st.ns.length ((lists st).set i ((nth (lists st) i).tail ++ (nth (lists st) i).take 1))).ts.length).toArray) (results_cell_row rfl _ _ _ _ _ (0, 0) _ rfl r1 Try.underlying25 rfl (by kernel_rfl)) rfl ⟨csV D1 D2 D3 d1 d2 d3 (laid st.ns.length ((lists st).set i ((nth (lists st) i).tail ++ (nth (lists st) i).take 1))).ns.length (laid st.ns.length ((lists st).set i ((nth (lists st) i).tail ++ (nth (lists st) i).take 1))).hs.length (laid st.ns.length ((lists st).set i ((nth (lists st) i).tail ++ (nth (lists st) i).take 1))).ts.length, rfl, ?_, setRow_below hb (by omega) _⟩
    rw [hR.out]; exact fin
end Go.Proofs.Ythicpjfdljgfpaa
