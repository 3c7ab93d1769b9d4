/- Package chain: places; slices' functions at places and numbers (as the pool's: XPool). -/
import Derived.Test.YthicpjfdljgfpaaRows
import Derived.Test.YthicpjfdljgfpaaSame
import Derived.Test.YthicpjfdljgfpaaChn2
import Derived.Shelf.Abstract
import Derived.Lib.LazyBuf
namespace Go.Proofs.Ythicpjfdljgfpaa
open Go.RowKit
set_option linter.unusedSimpArgs false
set_option linter.unusedVariables false

abbrev ndC (x : Nd) : List Value := [.int .i64 x.l, .int .i64 x.n, .int .i64 x.p]
abbrev ndV (x : Nd) : Value := .agg #[.int .i64 x.l, .int .i64 x.n, .int .i64 x.p]
abbrev nds (l : List Nd) : List Value := l.flatMap ndC
theorem nds_length (l : List Nd) : (nds l).length = 3 * l.length := by
  induction l with
  | nil => rfl
  | cons a l ih => simp only [nds, List.flatMap_cons, List.length_append, List.length_cons] at *; simp only [List.length_nil] at *; omega
theorem nds_get (l : List Nd) (k : Nat) (h : k < l.length) : (nds l)[k * 3]? = some (.int .i64 l[k].l) ∧ (nds l)[k * 3 + 1]? = some (.int .i64 l[k].n) ∧ (nds l)[k * 3 + 2]? = some (.int .i64 l[k].p) := by
  induction l generalizing k with
  | nil => simp at h
  | cons a l ih =>
    cases k with
    | zero => simp [nds]
    | succ k =>
      have := ih k (by simpa using h)
      have e : ∀ j, (nds (a :: l))[(k + 1) * 3 + j]? = (nds l)[k * 3 + j]? := fun j => by
        rw [show (k + 1) * 3 + j = (k * 3 + j) + 3 by omega]
        simp [nds]
      have e0 := e 0
      simp only [Nat.add_zero] at e0
      rw [e0, e 1, e 2]
      simpa using this
theorem Rd.nd {w : World} {B : Nat} {A : Option Addr} {l : List Nd} (h : Rd w B A (nds l)) {k : Nat} (hk : k < l.length) :
    ∃ ad, A = some ad ∧ ad.block < B ∧ w.cell? (ad.add (k * 3)) = some (.int .i64 l[k].l) ∧ w.cell? { block := (ad.add (k * 3)).block, off := (ad.add (k * 3)).off + 1 } = some (.int .i64 l[k].n) ∧ w.cell? { block := (ad.add (k * 3)).block, off := (ad.add (k * 3)).off + 2 } = some (.int .i64 l[k].p) := by
  obtain ⟨ad, e, hb, hc⟩ := h (by intro e; have := nds_length l; rw [e] at this; simp at this; omega)
  obtain ⟨a, b, c⟩ := nds_get l k hk
  have f : ∀ (x : Addr) (i : Nat), i ≠ 0 → x.add i = { block := x.block, off := x.off + i } := fun x i hi => by simp [Addr.add, hi]
  exact ⟨ad, e, hb, hc _ _ a, by rw [← f _ 1 (by omega), add_add']; exact hc _ _ b, by rw [← f _ 2 (by omega), add_add']; exact hc _ _ c⟩

/-- the first place at which p holds, or -1 -/
def idxI {α : Type} (p : α → Bool) (l : List α) : Int := if l.any p then (l.findIdx p : Nat) else -1
theorem idxI_at {α : Type} {p : α → Bool} {l : List α} {k : Nat} (hk : k < l.length) (h0 : ∀ x ∈ l.take k, p x = false) (h : p l[k] = true) : idxI p l = k := by
  have ha : l.any p = true := List.any_eq_true.2 ⟨_, List.getElem_mem hk, h⟩
  have : l.findIdx p = k := by
    rw [List.findIdx_eq hk]
    exact ⟨h, fun j hj => h0 _ (by rw [List.mem_take_iff_getElem]; exact ⟨j, by omega, rfl⟩)⟩
  simp [idxI, ha, this]
theorem idxI_none {α : Type} {p : α → Bool} {l : List α} (h0 : ∀ x ∈ l, p x = false) : idxI p l = -1 := by
  have ha : l.any p = false := by rw [Bool.eq_false_iff]; intro h; obtain ⟨x, hx, h⟩ := List.any_eq_true.1 h; rw [h0 x hx] at h; cases h
  simp [idxI, ha]
theorem idxI_any {α : Type} (p : α → Bool) (l : List α) : decide (0 ≤ idxI p l) = l.any p := by
  unfold idxI; cases h : l.any p <;> simp
theorem none_take {α : Type} {p : α → Bool} {l : List α} {k : Nat} (hk : k < l.length) (h0 : ∀ x ∈ l.take k, p x = false) (h : p l[k] = false) : ∀ x ∈ l.take (k + 1), p x = false := by
  intro x hx
  rw [take_snocL l k hk, List.mem_append] at hx
  rcases hx with hx | hx
  · exact h0 x hx
  · simp only [List.mem_singleton] at hx; rw [hx]; exact h

theorem node_info : (Try.prog.info? 63).map (fun i => (i.zero, i.size, i.bytes)) = some (some (ndV ⟨0, 0, 0⟩), 3, 24) := by kernel_rfl
theorem cint_info : (Try.prog.info? 3).map (fun i => (i.zero, i.size, i.bytes)) = some (some (.int .i64 0), 1, 8) := by kernel_rfl
theorem nds_one (l : List Nd) : ∀ u ∈ nds l, u.oneCell' = true := by
  intro u hu
  obtain ⟨x, _, hx⟩ := List.mem_flatMap.1 hu
  simp [ndC] at hx
  rcases hx with rfl | rfl | rfl <;> simp [Value.oneCell']
/-- a copy: nil of nil; else of its own -/
theorem nodes_Clone (A : Option Addr) (c : Nat) (l : List Nd) (w : World) (hl : l.length ≤ 1000) (ha : Rd w w.heap.size A (nds l)) :
    Calls Try.prog 56 #[.slice A l.length c] w fun e w' => ∃ B d, e = .returned (.slice B l.length d) ∧ w'.ownsRow w.heap.size 63 3 (.slice B l.length d) l.length (nds l) ∧ Below w.heap.size w w' := by
  obtain ⟨i0, hi, hz0, hz1, hz2⟩ := info_parts node_info
  have hq := fun (w : World) a n c => Go.run_eql_slice_nil (P := Try.prog) w 28 63 a n c Try.underlying28
  have hlen := nds_length l
  go_enter Try.func56, Try.ntmps56
  cases A with
  | none =>
    have hl0 : l = [] := by
      rcases l with _ | ⟨a, l⟩
      · rfl
      · obtain ⟨ad, h, _⟩ := ha (by simp [nds]); cases h
    subst hl0
    go_wp2
    go_ret
    exact ⟨none, 0, rfl, ⟨rfl, .inl ⟨rfl, rfl⟩⟩, by (repeat (first | with_reducible exact Below.refl _ _ | with_reducible assumption | with_reducible refine Below.drew ?_ | with_reducible refine Below.drewN ?_ _ | with_reducible refine Below.alloc1 ?_ _ | with_reducible refine Below.setCell1 ?_ (by first | omega | (simp; done) | (simp; omega)) _ | with_reducible refine Below.step ?_ (by with_reducible assumption)))⟩
  | some ad =>
    have hown : (w.alloc (.cells #[] 63)).ownsRow w.heap.size 63 3 (.slice (some ⟨w.heap.size, 0, none⟩) 0 0) 0 [] := ⟨rfl, .inr ⟨_, 0, #[], rfl, Nat.le_refl _, heap_alloc_new w _, Nat.le_refl _, Nat.zero_le _, rfl, rfl⟩⟩
    have hb1 : Below w.heap.size w (w.alloc (.cells #[] 63)) := by (repeat (first | with_reducible exact Below.refl _ _ | with_reducible assumption | with_reducible refine Below.drew ?_ | with_reducible refine Below.drewN ?_ _ | with_reducible refine Below.alloc1 ?_ _ | with_reducible refine Below.setCell1 ?_ (by first | omega | (simp; done) | (simp; omega)) _ | with_reducible refine Below.step ?_ (by with_reducible assumption)))
    have hs1 : (w.alloc (.cells #[] 63)).heap.size = w.heap.size + 1 := by simp
    have ha1 := ha.below hb1
    go_wp2_with (at_builtin; refine wpList_append_own _ rfl (.tmp 5) (.tmp 6) 28 rfl w.heap.size 63 i0 _ 3 24 Try.underlying28 hi hz0 hz1 hz2 rfl (by omega) (.slice (some ⟨w.heap.size, 0, none⟩) 0 0) 0 [] rfl hown ad l.length c (nds l) rfl (by rw [hlen]; omega) ?c1 (nds_one l) (by unfold maxLen; omega) (by omega) (by omega) ?_; rotate_right; intro v' w' h2 h3 h4)
    case c1 => 
      intro j u hu
      obtain ⟨ad', e, _, hc⟩ := ha1 (by rintro h0; rw [h0] at hu; simp at hu)
      injection e with e; subst e
      exact hc j u hu
    simp only [Nat.zero_add, List.nil_append] at h2
    obtain ⟨B, d, rfl⟩ := own_form h2
    have hb2 : Below w.heap.size w w' := hb1.trans ((Below.refl w.heap.size _).grown h3 (by omega) (fun k hk => by cases hk; exact Nat.le_refl w.heap.size))
    go_wp2
    go_ret
    exact ⟨B, d, rfl, h2, hb2⟩
theorem ints_Clone (A : Option Addr) (c : Nat) (l : List Int) (w : World) (hl : l.length ≤ 1000) (ha : Rd w w.heap.size A (ints l)) :
    Calls Try.prog 57 #[.slice A l.length c] w fun e w' => ∃ B d, e = .returned (.slice B l.length d) ∧ w'.ownsRow w.heap.size 3 1 (.slice B l.length d) l.length (ints l) ∧ Below w.heap.size w w' := by
  obtain ⟨i0, hi, hz0, hz1, hz2⟩ := info_parts cint_info
  have hq := fun (w : World) a n c => Go.run_eql_slice_nil (P := Try.prog) w 23 3 a n c Try.underlying23
  have hlen : (ints l).length = l.length := by simp
  go_enter Try.func57, Try.ntmps57
  cases A with
  | none =>
    have hl0 : l = [] := by
      rcases l with _ | ⟨a, l⟩
      · rfl
      · obtain ⟨ad, h, _⟩ := ha (by simp); cases h
    subst hl0
    go_wp2
    go_ret
    exact ⟨none, 0, rfl, ⟨rfl, .inl ⟨rfl, rfl⟩⟩, by (repeat (first | with_reducible exact Below.refl _ _ | with_reducible assumption | with_reducible refine Below.drew ?_ | with_reducible refine Below.drewN ?_ _ | with_reducible refine Below.alloc1 ?_ _ | with_reducible refine Below.setCell1 ?_ (by first | omega | (simp; done) | (simp; omega)) _ | with_reducible refine Below.step ?_ (by with_reducible assumption)))⟩
  | some ad =>
    have hown : (w.alloc (.cells #[] 3)).ownsRow w.heap.size 3 1 (.slice (some ⟨w.heap.size, 0, none⟩) 0 0) 0 [] := ⟨rfl, .inr ⟨_, 0, #[], rfl, Nat.le_refl _, heap_alloc_new w _, Nat.le_refl _, Nat.zero_le _, rfl, rfl⟩⟩
    have hb1 : Below w.heap.size w (w.alloc (.cells #[] 3)) := by (repeat (first | with_reducible exact Below.refl _ _ | with_reducible assumption | with_reducible refine Below.drew ?_ | with_reducible refine Below.drewN ?_ _ | with_reducible refine Below.alloc1 ?_ _ | with_reducible refine Below.setCell1 ?_ (by first | omega | (simp; done) | (simp; omega)) _ | with_reducible refine Below.step ?_ (by with_reducible assumption)))
    have hs1 : (w.alloc (.cells #[] 3)).heap.size = w.heap.size + 1 := by simp
    have ha1 := ha.below hb1
    go_wp2_with (at_builtin; refine wpList_append_own _ rfl (.tmp 5) (.tmp 6) 23 rfl w.heap.size 3 i0 _ 1 8 Try.underlying23 hi hz0 hz1 hz2 rfl (by omega) (.slice (some ⟨w.heap.size, 0, none⟩) 0 0) 0 [] rfl hown ad l.length c (ints l) rfl (by rw [hlen]; omega) ?c1 (fun u hu => by obtain ⟨x, _, rfl⟩ := List.mem_map.1 hu; rfl) (by unfold maxLen; omega) (by omega) (by omega) ?_; rotate_right; intro v' w' h2 h3 h4)
    case c1 => 
      intro j u hu
      obtain ⟨ad', e, _, hc⟩ := ha1 (by rintro h0; rw [h0] at hu; simp at hu)
      injection e with e; subst e
      exact hc j u hu
    simp only [Nat.zero_add, List.nil_append] at h2
    obtain ⟨B, d, rfl⟩ := own_form h2
    have hb2 : Below w.heap.size w w' := hb1.trans ((Below.refl w.heap.size _).grown h3 (by omega) (fun k hk => by cases hk; exact Nat.le_refl w.heap.size))
    go_wp2
    go_ret
    exact ⟨B, d, rfl, h2, hb2⟩
theorem ints_Equal (A B : Option Addr) (c d : Nat) (l m : List Int) (w : World) (hl : l.length ≤ maxLen) (ha : Rd w w.heap.size A (ints l)) (hb : Rd w w.heap.size B (ints m)) :
    Calls Try.prog 55 #[.slice A l.length c, .slice B m.length d] w fun e w' => e = .returned (.bool (decide (l = m))) ∧ ∃ n, w.drewN n = w' := by
  unfold maxLen at hl
  by_cases hlen : l.length = m.length
  · have hne : ((l.length : Int) != (m.length : Int)) = false := by rw [bne_eq_false_iff_eq]; omega
    have hlen' : l.length ≤ m.length ∧ m.length ≤ l.length := by omega
    have HL := hide hlen
    clear hlen
    go_enter Try.func55, Try.ntmps55
    go_wp2
    go_loopw [13] (fun i wr => ∃ k : Nat, k ≤ l.length ∧ i = .int .i64 k ∧ l.take k = m.take k ∧ ∃ n, w.drewN n = wr) (fun i _ => l.length - (intOf i).toNat)
    case atStart => exact ⟨0, Nat.zero_le _, rfl, rfl, 0, rfl⟩
    case round =>
      obtain ⟨k, hk, rfl, ht, n, rfl⟩ := hrel
      have HT := hide ht
      clear ht
      by_cases hlt : k < l.length
      · obtain ⟨ad, rfl, _, hca⟩ := ha.at_ (k := k) (by simpa using hlt)
        obtain ⟨bd, rfl, _, hcb⟩ := hb.at_ (k := k) (by simp; omega)
        rw [ints_get l k hlt] at hca
        rw [ints_get m k (by omega)] at hcb
        have h2 : k < m.length := by omega
        by_cases he : l[k] = m[k]
        · have hne : (l[k] != m[k]) = false := by rw [bne_eq_false_iff_eq]; exact he
          have HE := hide he
          clear he
          go_wp2
          go_quiet (fail)
          go_wp2
          go_roundw
          case rel => exact ⟨k + 1, by omega, by go_num, take_eq_succ l m k hlt h2 HT.out HE.out, _, rfl⟩
          case measure => simp [intOf]; omega
        · have hne : (l[k] != m[k]) = true := by rw [bne_iff_ne]; exact he
          go_wp2
          go_quiet (fail)
          go_wp2
          go_ret
          exact ⟨ret_bool (by rw [eq_comm, decide_eq_false_iff_not]; intro e; subst e; exact he rfl), qt_trans ⟨_, rfl⟩ ⟨_, rfl⟩⟩
      · go_wp2
        go_ret
        refine ⟨ret_bool ?_, _, rfl⟩
        have h := HT.out
        rw [List.take_of_length_le (by omega), List.take_of_length_le (by omega)] at h
        rw [eq_comm, decide_eq_true_eq]
        exact h
  · have hne : ((l.length : Int) != (m.length : Int)) = true := by rw [bne_iff_ne]; omega
    go_enter Try.func55, Try.ntmps55
    go_wp2
    go_ret
    exact ⟨ret_bool (by rw [eq_comm, decide_eq_false_iff_not]; intro e; exact hlen (by rw [e])), 0, rfl⟩
instance : Inhabited Nd := ⟨⟨0, 0, 0⟩⟩
theorem nodes_Equal (A B : Option Addr) (c d : Nat) (l m : List Nd) (w : World) (hl : l.length ≤ maxLen) (ha : Rd w w.heap.size A (nds l)) (hb : Rd w w.heap.size B (nds m)) :
    Calls Try.prog 54 #[.slice A l.length c, .slice B m.length d] w fun e w' => e = .returned (.bool (decide (l = m))) ∧ ∃ n, w.drewN n = w' := by
  unfold maxLen at hl
  by_cases hlen : l.length = m.length
  · have hne : ((l.length : Int) != (m.length : Int)) = false := by rw [bne_eq_false_iff_eq]; omega
    have hlen' : l.length ≤ m.length ∧ m.length ≤ l.length := by omega
    have HL := hide hlen
    clear hlen
    go_enter Try.func54, Try.ntmps54
    go_wp2
    go_loopw [13] (fun i wr => ∃ k : Nat, k ≤ l.length ∧ i = .int .i64 k ∧ l.take k = m.take k ∧ ∃ n, w.drewN n = wr) (fun i _ => l.length - (intOf i).toNat)
    case atStart => exact ⟨0, Nat.zero_le _, rfl, rfl, 0, rfl⟩
    case round =>
      obtain ⟨k, hk, rfl, ht, n, rfl⟩ := hrel
      have HT := hide ht
      clear ht
      by_cases hlt : k < l.length
      · obtain ⟨ad, rfl, _, a1, a2, a3⟩ := ha.nd hlt
        obtain ⟨bd, rfl, _, b1, b2, b3⟩ := hb.nd (k := k) (by omega)
        have h2 : k < m.length := by omega
        have hE : ∀ b, b = decide (l[k] = m[k]) → ∀ w', (binOp .neq 63 (ndV l[k]) (ndV m[k])).run Try.prog w' = .ok (.bool (!b)) w' := by
          rintro b rfl w'
          generalize l[k] = x
          generalize m[k] = y
          obtain ⟨xg, xl, xv⟩ := x
          obtain ⟨yg, yl, yv⟩ := y
          have hS : Try.prog.underlying 63 = some (.struct (Try.prog.fieldsOf 63)) := by kernel_rfl
          have hp : Try.prog.stoodInHeld 63 = false := by kernel_rfl
          rw [run_neq_struct, show (10000 : Nat) = 9999 + 1 from rfl, run_equalIn_agg w' 9999 63 _ _ hS hp]
          simp only [Program.fieldsOf, Try.underlying63]
          go_simp
          by_cases h1 : xg = yg <;> by_cases h2 : xl = yl <;> by_cases h3 : xv = yv <;> simp [h1, h2, h3]
        by_cases he : l[k] = m[k]
        · have hE1 := hE true (by simp [he])
          have HE := hide he
          clear he hE
          go_wp2_with fail
          go_quiet (fail)
          go_wp2
          go_roundw
          case rel => exact ⟨k + 1, by omega, by go_num, take_eq_succ l m k hlt h2 HT.out HE.out, _, rfl⟩
          case measure => simp [intOf]; omega
        · have hE1 := hE false (by simp [he])
          clear hE
          go_wp2_with fail
          go_quiet (fail)
          go_wp2
          go_ret
          exact ⟨ret_bool (by rw [eq_comm, decide_eq_false_iff_not]; intro e; subst e; exact he rfl), qt_trans ⟨_, rfl⟩ ⟨_, rfl⟩⟩
      · go_wp2
        go_ret
        refine ⟨ret_bool ?_, _, rfl⟩
        have h := HT.out
        rw [List.take_of_length_le (by omega), List.take_of_length_le (by omega)] at h
        rw [eq_comm, decide_eq_true_eq]
        exact h
  · have hne : ((l.length : Int) != (m.length : Int)) = true := by rw [bne_iff_ne]; omega
    go_enter Try.func54, Try.ntmps54
    go_wp2
    go_ret
    exact ⟨ret_bool (by rw [eq_comm, decide_eq_false_iff_not]; intro e; exact hlen (by rw [e])), 0, rfl⟩
end Go.Proofs.Ythicpjfdljgfpaa
