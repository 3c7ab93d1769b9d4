/- Package source: slices.DeleteFunc at Entry. -/
import Derived.Test.YtolpiaehleefbaaSrc2
import Derived.Test.YtolpiaehleefbaaA2
import Derived.Deep.DeepCutAuto
import Derived.Lib.SliceRun
import Derived.Laws.OwnMore
namespace Go.Proofs.Ytolpiaehleefbaa
open Go.RowKit Go.Sort
set_option linter.unusedSimpArgs false
set_option linter.unusedVariables false

theorem enR_append (a b : List En) : enR (a ++ b) = enR a ++ enR b := by simp [enR]
theorem enR_take (l : List En) (k : Nat) : (enR l).take (k * 3) = enR (l.take k) := by
  induction l generalizing k with
  | nil => simp
  | cons a l ih =>
    cases k with
    | zero => simp
    | succ k =>
      have := ih k
      rw [show (k + 1) * 3 = k * 3 + 3 by omega]
      simp only [enR, List.flatMap_cons, List.take_succ_cons] at *
      rw [show k * 3 + 3 = (enC a).length + k * 3 by simp [enC]; omega, List.take_append, Nat.add_sub_cancel_left, this, List.take_of_length_le (by simp [enC])]
theorem enR_drop (l : List En) (k : Nat) : (enR l).drop (k * 3) = enR (l.drop k) := by
  have h1 : enR l = enR (l.take k) ++ enR (l.drop k) := by rw [← enR_append, List.take_append_drop]
  rw [h1]
  by_cases hk : k ≤ l.length
  · rw [List.drop_left' (by rw [enR_length]; simp; omega)]
  · rw [List.drop_of_length_le (by rw [List.length_append, enR_length, enR_length]; simp; omega), List.drop_of_length_le (by omega)]; rfl
theorem enR_set3 (l : List En) (i : Nat) (g : En) (h : i < l.length) : (((enR l).set (i * 3) (.int .i64 g.s)).set (i * 3 + 1) (.int .i64 g.t)).set (i * 3 + 2) (.int .i64 g.a) = enR (l.set i g) := by
  induction l generalizing i with
  | nil => simp at h
  | cons f r ih =>
    cases i with
    | zero => simp [enR]
    | succ i =>
      have := ih i (by simpa using h)
      have e : (i + 1) * 3 = i * 3 + 1 + 1 + 1 := by omega
      simp only [enR, List.flatMap_cons, List.set_cons_succ, enC, List.cons_append, List.nil_append, e] at *
      rw [← this]
theorem idxI_two {α : Type} (p : α → Bool) (l : List α) : (idxI p l = -1 ∧ ∀ x ∈ l, p x = false) ∨ ∃ k, ∃ h : k < l.length, idxI p l = k ∧ (∀ x ∈ l.take k, p x = false) ∧ p l[k] = true := by
  cases ha : l.any p with
  | false => exact .inl ⟨by simp [idxI, ha], fun x hx => by rw [List.any_eq_false] at ha; simpa using ha x hx⟩
  | true =>
    have hk : l.findIdx p < l.length := List.findIdx_lt_length.2 (by simpa using ha)
    refine .inr ⟨l.findIdx p, hk, by simp [idxI, ha], fun x hx => ?_, List.findIdx_getElem⟩
    rw [List.mem_take_iff_getElem] at hx
    obtain ⟨j, hj, rfl⟩ := hx
    simpa using List.not_of_lt_findIdx (p := p) (xs := l) (i := j) (by omega)
theorem own_cap14 {w : World} {base : Nat} {e : TypeId} {size n c m : Nat} {A : Option Addr} {xs : List Value} (h : w.ownsRow base e size (.slice A n c) m xs) : m ≤ c ∧ c ≤ 9223372036854775807 := by
  rcases h.2 with ⟨h0, e⟩ | ⟨g, cap, cur, e, _, _, hc, hm, _⟩
  · injection h0 with _ _ h0; omega
  · injection e with _ _ e; subst e; exact ⟨hc, hm⟩
/-- what stays of the first ones -/
abbrev keepN (p : En → Bool) (l : List En) (j : Nat) : List En := (l.take j).filter fun x => !p x
theorem keepN_len (p : En → Bool) (l : List En) (j : Nat) : (keepN p l j).length ≤ j := by
  have h1 := List.length_filter_le (fun x => !p x) (l.take j)
  have h2 : (l.take j).length ≤ j := by rw [List.length_take]; omega
  exact Nat.le_trans h1 h2
theorem keepN_succ (p : En → Bool) (l : List En) (j : Nat) (h : j < l.length) : keepN p l (j + 1) = keepN p l j ++ if p l[j] = true then [] else [l[j]] := by
  unfold keepN
  rw [take_snocL l j h, List.filter_append]
  cases hp : p l[j] <;> simp [hp]
theorem keepN_first {p : En → Bool} {l : List En} {k : Nat} (h : k < l.length) (h0 : ∀ x ∈ l.take k, p x = false) (h1 : p l[k] = true) : keepN p l (k + 1) = l.take k := by
  rw [keepN_succ p l k h, if_pos h1, List.append_nil]
  unfold keepN
  rw [List.filter_eq_self]
  intro x hx
  rw [h0 x hx]; rfl
theorem filt_all {p : En → Bool} {l : List En} (h : ∀ x ∈ l, p x = false) : (l.filter fun x => !p x) = l := by
  rw [List.filter_eq_self]
  intro x hx
  rw [h x hx]; rfl
theorem own_en {w : World} {base g c n : Nat} {m : List En} (own : w.ownsRow base 146 3 (.slice (some ⟨g, 0, none⟩) n c) n (enR m)) (hm : m.length = n) {j : Nat} (hj : j < m.length) :
    w.cell? ⟨g, j * 3, none⟩ = some (.int .i64 m[j].s) ∧ w.cell? ⟨g, j * 3 + 1, none⟩ = some (.int .i64 m[j].t) ∧ w.cell? ⟨g, j * 3 + 2, none⟩ = some (.int .i64 m[j].a) := by
  obtain ⟨q0, q1, q2⟩ := enR_get m j hj
  exact ⟨(own.cellAt (j * 3) (by omega)).trans q0, (own.cellAt (j * 3 + 1) (by omega)).trans q1, (own.cellAt (j * 3 + 2) (by omega)).trans q2⟩
theorem own_en_set {w : World} {base g c n : Nat} {m : List En} (own : w.ownsRow base 146 3 (.slice (some ⟨g, 0, none⟩) n c) n (enR m)) {i : Nat} (hi : i < m.length) (v : En) :
    (((w.setCell ⟨g, i * 3, none⟩ (.int .i64 v.s)).setCell ⟨g, i * 3 + 1, none⟩ (.int .i64 v.t)).setCell ⟨g, i * 3 + 2, none⟩ (.int .i64 v.a)).ownsRow base 146 3 (.slice (some ⟨g, 0, none⟩) n c) n (enR (m.set i v)) := by
  rw [← enR_set3 m i v hi]
  exact (World.ownsRow.stored (World.ownsRow.stored (World.ownsRow.stored own _ _).1 _ _).1 _ _).1
set_option maxRecDepth 100000 in
set_option maxHeartbeats 4000000 in
theorem en_DeleteFunc (g : FuncId) (cap : Array Value) (p : En → Bool) (base : Nat) (w : World) (eg : ∀ args w, (callFunc g args).run Try.prog w = .ok (.enter g args) w) (hg : ∀ x W, Below base w W → Calls Try.prog g (#[enV x] ++ cap) W fun e w' => e = .returned (.bool (p x)) ∧ Below W.heap.size W w')
    (A : Option Addr) (c : Nat) (l : List En) (hl : l.length ≤ 1000) (hbase : base ≤ w.heap.size) (own : w.ownsRow base 146 3 (.slice A l.length c) l.length (enR l)) :
    Calls Try.prog 78 #[.slice A l.length c, .func (.func g) #[] cap] w fun e w' => e = .returned (.slice A (l.filter fun x => !p x).length c) ∧ w'.ownsRow base 146 3 (.slice A (l.filter fun x => !p x).length c) (l.filter fun x => !p x).length (enR (l.filter fun x => !p x)) ∧ Below base w w' := by
  have hI := en_IndexFunc g cap p w eg (fun x W h => hg x W (h.mono hbase)) A c l (by unfold maxLen; omega) (own_rd own)
  rcases idxI_two p l with ⟨e0, h0⟩ | ⟨k0, hk0, e0, h0, h1⟩
  · rw [e0] at hI
    rw [filt_all h0]
    clear hg eg
    go_enter Try.func78, Try.ntmps78
    go_wp2_with fail
    refine hI.mono ?_; rintro e x0 ⟨rfl, hx0⟩
    go_wp2
    go_ret
    exact ⟨rfl, own_below own hx0 (Nat.le_refl _), hx0.mono hbase⟩
  · rw [e0] at hI
    obtain ⟨i0, hi, hz0, hz1, hz2⟩ := info_parts en_info
    obtain ⟨gA, cA, hA, hgb, hgl⟩ := own_some own (by omega)
    injection hA with hA _ hc
    subst hA hc
    have hcap := own_cap14 own
    have hK := keepN_first hk0 h0 h1
    have HKF := hide (show keepN p l l.length = l.filter fun x => !p x from by unfold keepN; rw [List.take_length])
    have hkl : (k0 : Int) ≠ -1 := by omega
    have hkl2 : ((k0 : Int) == -1) = false := by rw [beq_eq_false_iff_ne]; exact hkl
    clear h0 h1 e0
    go_enter Try.func78, Try.ntmps78
    go_wp2_with fail
    refine hI.mono ?_; rintro e x0 ⟨rfl, hx0⟩
    have own0 := own_below own hx0 (Nat.le_refl _)
    have hb0 : Below base w x0 := hx0.mono hbase
    clear hx0 hI own
    go_wp2_with fail
    go_loopw [5, 6] (fun iv jv wr => ∃ (i j : Nat) (m : List En), j ≤ l.length ∧ jv = .int .i64 j ∧ iv = .int .i64 i ∧ Hid (i = (keepN p l j).length) ∧ i < j ∧ m.length = l.length ∧ Hid (m.take i = keepN p l j) ∧ Hid (m.drop j = l.drop j) ∧ wr.ownsRow base 146 3 (.slice (some ⟨gA, 0, none⟩) l.length c) l.length (enR m) ∧ Below base w wr) (fun _ jv _ => l.length - (intOf jv).toNat)
    case atStart => exact ⟨k0, k0 + 1, l, by omega, by go_num, rfl, by unfold Hid; rw [hK, List.length_take]; omega, by omega, rfl, hK.symm, rfl, own0, hb0⟩
    case round =>
      clear own0 hb0 hK hkl hkl2
      obtain ⟨i, j, m, hj, rfl, rfl, HI, hij, hml, HT, HD, own, hb⟩ := hrel
      by_cases hlt : j < l.length
      · have hjm : j < m.length := by omega
        have hmj : m[j] = l[j] := by
          have e1 := List.getElem?_eq_getElem hjm
          have e2 : (m.drop j)[0]? = m[j]? := by simp
          rw [HD.out] at e2
          simp [hlt, hjm] at e2
          exact e2.symm
        obtain ⟨c0, c1, c2⟩ := own_en own hml hjm
        rw [hmj] at c0 c1 c2
        have HS := hide (keepN_succ p l j hlt)
        have hD1 : Hid (∀ (m' : List En), m'.drop (j + 1) = m.drop (j + 1) → m'.drop (j + 1) = l.drop (j + 1)) := fun m' h => by
          rw [h, ← List.drop_drop, ← List.drop_drop, HD.out]
        clear hmj HD
        generalize l[j] = v at *
        have hgv := hg v
        have lg := (own.lt gA rfl).2
        go_wp2_with fail
        generalize hV : World.alloc wr _ = w1
        have hy : Below wr.heap.size wr w1 := by subst hV; (repeat (first | with_reducible exact Below.refl _ _ | with_reducible assumption | with_reducible refine Below.drew ?_ | with_reducible refine Below.drewN ?_ _ | with_reducible refine Below.alloc1 ?_ _ | with_reducible refine Below.setCell1 ?_ (by first | omega | (simp; done) | (simp; omega)) _ | with_reducible refine Below.step ?_ (by with_reducible assumption)))
        have kv : Bk w1 wr.heap.size 146 (enC v) := by subst hV; (repeat (first | with_reducible exact Bk.new' _ _ _ _ (by simp; done) | with_reducible assumption | with_reducible refine Bk.alloc ?_ _ | with_reducible refine Bk.drew ?_ | with_reducible refine Bk.drewN ?_ _ | with_reducible refine Bk.step ?_ (by with_reducible assumption) | with_reducible refine Bk.far ?_ (by first | omega | (simp; done) | (simp; omega)) _))
        clear hV c0 c1 c2
        replace own := own_below own hy (Nat.le_refl _)
        replace hb : Below base w w1 := hb.trans (hy.mono (Nat.le_trans hbase hb.size))
        clear hy
        have kv_0 := kv.cell 0; have kv_f0 := kv.frozen 0; have kv_1 := kv.cell 1; have kv_f1 := kv.frozen 1; have kv_2 := kv.cell 2; have kv_f2 := kv.frozen 2; simp only [List.set_cons_zero, List.set_cons_succ, List.getElem?_cons_zero, List.getElem?_cons_succ] at kv_0 kv_1 kv_2; have lt_kv := kv.lt
        refine (hgv _ hb).mono ?_; rintro e w5 ⟨rfl, hy5⟩
        replace kv := kv.step hy5; (try clear kv_0 kv_f0 kv_1 kv_f1 kv_2 kv_f2); have kv_0 := kv.cell 0; have kv_f0 := kv.frozen 0; have kv_1 := kv.cell 1; have kv_f1 := kv.frozen 1; have kv_2 := kv.cell 2; have kv_f2 := kv.frozen 2; simp only [List.set_cons_zero, List.set_cons_succ, List.getElem?_cons_zero, List.getElem?_cons_succ] at kv_0 kv_1 kv_2; (try clear lt_kv); have lt_kv := kv.lt
        replace own := own_below own hy5 (Nat.le_refl _)
        replace hb : Below base w w5 := hb.trans (hy5.mono (Nat.le_trans hbase hb.size))
        clear hy5 hgv
        by_cases hp : p v = true
        · rw [if_pos hp, List.append_nil] at HS
          have hI2 : Hid (i = (keepN p l (j + 1)).length) := by unfold Hid; rw [HS.out]; exact HI.out
          have hT2 : Hid (m.take i = keepN p l (j + 1)) := by unfold Hid; rw [HS.out]; exact HT.out
          have hD2 := hide (hD1.out m rfl)
          go_wp2_with fail
          go_roundw
          case rel => exact ⟨i, j + 1, m, by omega, by go_num, rfl, hI2, by omega, hml, hT2, hD2, own, hb⟩
          case measure => simp [intOf]; omega
        · have hp2 : p v = false := by simpa using hp
          rw [if_neg hp] at HS
          have him : i < m.length := by omega
          have hI2 : Hid (i + 1 = (keepN p l (j + 1)).length) := by unfold Hid; rw [HS.out, List.length_append, ← HI.out]; rfl
          have hT2 : Hid ((m.set i v).take (i + 1) = keepN p l (j + 1)) := by
            unfold Hid
            rw [HS.out, ← HT.out, List.take_succ_eq_append_getElem (by rw [List.length_set]; exact him), List.getElem_set_self, List.take_set_of_le (Nat.le_refl i)]
          have hD2 := hide (hD1.out (m.set i v) (by rw [List.drop_set_of_lt (by omega)]))
          obtain ⟨d0, d1, d2⟩ := own_en own hml him
          have f0 := own.frozenAt (i * 3)
          have f1 := own.frozenAt (i * 3 + 1)
          have f2 := own.frozenAt (i * 3 + 2)
          have hil : (i : Int) < (l.length : Int) := by omega
          have own7 := own_en_set own him v
          clear hp
          go_wp2_with fail
          exact ⟨⟨i + 1, j + 1, m.set i v, by omega, by go_num, by go_num, hI2, by omega, by rw [List.length_set]; exact hml, hT2, hD2, own7, ((hb.setCell (by dsimp only; omega) _).setCell (by dsimp only; omega) _).setCell (by dsimp only; omega) _⟩, by simp [intOf]; omega⟩
      · have hjl : j = l.length := by omega
        subst hjl
        have hTF := HT.out
        rw [HKF.out] at hTF
        have hIF := HI.out
        rw [HKF.out] at hIF
        have ownT := own_take own (Nat.le_of_lt hij)
        rw [enR_take, hTF] at ownT
        obtain ⟨k, hk⟩ : ∃ k, l.length - i = k + 1 := ⟨l.length - i - 1, by omega⟩
        have oz := own_clear (size := 3) (c' := c - i) (k := k) Try.underlying48 hi hz0 rfl (by intro u hu; simp [Value.cells] at hu; rcases hu with rfl | rfl | rfl <;> simp [Value.oneCell']) ownT (by omega)
        obtain ⟨w2, hcl, own2, hg2⟩ := oz
        rw [← hk] at hcl
        have HIF := hide hIF
        have hci : ¬ c = i := by omega
        have hil : i ≤ l.length := by omega
        have hil2 : (i : Int) ≤ (l.length : Int) := by omega
        have hb2 : Below base w w2 := hb.trans (Gr.below hg2 hgb (Nat.le_trans hbase hb.size))
        clear hk HI HT HD hTF hIF HKF own ownT hg2 hb
        go_wp2
        go_ret
        rw [← HIF.out]
        exact ⟨rfl, own2, hb2⟩
end Go.Proofs.Ytolpiaehleefbaa
