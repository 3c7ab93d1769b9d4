/- Package source: rows of entries; slices' functions at them. -/
import Derived.Test.YtolpiaehleefbaaRows
import Derived.Test.YtolpiaehleefbaaA0
import Derived.Shelf.Abstract
import Derived.Lib.LazyBuf
namespace Go.Proofs.Ytolpiaehleefbaa
open Go.RowKit
set_option linter.unusedSimpArgs false
set_option linter.unusedVariables false

/-- the first place at which p holds, or -1 -/
def idxI {α : Type} (p : α → Bool) (l : List α) : Int := if l.any p then (l.findIdx p : Nat) else -1
theorem idxI_at {α : Type} {p : α → Bool} {l : List α} {k : Nat} (hk : k < l.length) (h0 : ∀ x ∈ l.take k, p x = false) (h : p l[k] = true) : idxI p l = k := by
  have ha : l.any p = true := List.any_eq_true.2 ⟨_, List.getElem_mem hk, h⟩
  have : l.findIdx p = k := by
    rw [List.findIdx_eq hk]
    exact ⟨h, fun j hj => h0 _ (by rw [List.mem_take_iff_getElem]; exact ⟨j, by omega, rfl⟩)⟩
  simp [idxI, ha, this]
theorem idxI_none {α : Type} {p : α → Bool} {l : List α} (h0 : ∀ x ∈ l, p x = false) : idxI p l = -1 := by
  have ha : l.any p = false := by rw [Bool.eq_false_iff]; intro h; obtain ⟨x, hx, h⟩ := List.any_eq_true.1 h; rw [h0 x hx] at h; cases h
  simp [idxI, ha]
theorem idxI_any {α : Type} (p : α → Bool) (l : List α) : decide (0 ≤ idxI p l) = l.any p := by
  unfold idxI; cases h : l.any p <;> simp
theorem none_take {α : Type} {p : α → Bool} {l : List α} {k : Nat} (hk : k < l.length) (h0 : ∀ x ∈ l.take k, p x = false) (h : p l[k] = false) : ∀ x ∈ l.take (k + 1), p x = false := by
  intro x hx
  rw [take_snocL l k hk, List.mem_append] at hx
  rcases hx with hx | hx
  · exact h0 x hx
  · simp only [List.mem_singleton] at hx; rw [hx]; exact h
structure En where
  s : Int
  t : Int
  a : Int
deriving DecidableEq
instance : Inhabited En := ⟨⟨0, 0, 0⟩⟩
abbrev enC (x : En) : List Value := [.int .i64 x.s, .int .i64 x.t, .int .i64 x.a]
abbrev enV (x : En) : Value := .agg #[.int .i64 x.s, .int .i64 x.t, .int .i64 x.a]
abbrev enR (l : List En) : List Value := l.flatMap enC
theorem enR_length (l : List En) : (enR l).length = 3 * l.length := by
  induction l with
  | nil => rfl
  | cons a l ih => simp only [enR, List.flatMap_cons, List.length_append, List.length_cons] at *; simp only [List.length_nil] at *; omega
theorem enR_get (l : List En) (k : Nat) (h : k < l.length) : (enR l)[k * 3]? = some (.int .i64 l[k].s) ∧ (enR l)[k * 3 + 1]? = some (.int .i64 l[k].t) ∧ (enR l)[k * 3 + 2]? = some (.int .i64 l[k].a) := by
  induction l generalizing k with
  | nil => simp at h
  | cons a l ih =>
    cases k with
    | zero => simp [enR]
    | succ k =>
      have := ih k (by simpa using h)
      have e : ∀ j, (enR (a :: l))[(k + 1) * 3 + j]? = (enR l)[k * 3 + j]? := fun j => by
        rw [show (k + 1) * 3 + j = (k * 3 + j) + 3 by omega]
        simp [enR]
      have e0 := e 0
      simp only [Nat.add_zero] at e0
      rw [e0, e 1, e 2]
      simpa using this
theorem Rd.en {w : World} {B : Nat} {A : Option Addr} {l : List En} (h : Rd w B A (enR l)) {k : Nat} (hk : k < l.length) :
    ∃ ad, A = some ad ∧ ad.block < B ∧ w.cell? (ad.add (k * 3)) = some (.int .i64 l[k].s) ∧ w.cell? { block := (ad.add (k * 3)).block, off := (ad.add (k * 3)).off + 1 } = some (.int .i64 l[k].t) ∧ w.cell? { block := (ad.add (k * 3)).block, off := (ad.add (k * 3)).off + 2 } = some (.int .i64 l[k].a) := by
  obtain ⟨ad, e, hb, hc⟩ := h (by intro e; have := enR_length l; rw [e] at this; simp at this; omega)
  obtain ⟨q0, q1, q2⟩ := enR_get l k hk
  have f : ∀ (x : Addr) (i : Nat), i ≠ 0 → x.add i = { block := x.block, off := x.off + i } := fun x i hi => by simp [Addr.add, hi]
  exact ⟨ad, e, hb, hc _ _ q0, by rw [← f _ 1 (by omega), add_add']; exact hc _ _ q1, by rw [← f _ 2 (by omega), add_add']; exact hc _ _ q2⟩
theorem enR_one (l : List En) : ∀ u ∈ enR l, u.oneCell' = true := by
  intro u hu
  obtain ⟨x, _, hx⟩ := List.mem_flatMap.1 hu
  simp [enC] at hx
  rcases hx with rfl | rfl | rfl <;> simp [Value.oneCell']
set_option maxRecDepth 100000 in
theorem en_IndexFunc (g : FuncId) (cap : Array Value) (p : En → Bool) (w : World) (eg : ∀ args w, (callFunc g args).run Try.prog w = .ok (.enter g args) w) (hg : ∀ x W, Below w.heap.size w W → Calls Try.prog g (#[enV x] ++ cap) W fun e w' => e = .returned (.bool (p x)) ∧ Below W.heap.size W w')
    (A : Option Addr) (c : Nat) (l : List En) (hl : l.length ≤ maxLen) (ha : Rd w w.heap.size A (enR l)) :
    Calls Try.prog 105 #[.slice A l.length c, .func (.func g) #[] cap] w fun e w' => e = .returned (.int .i64 (idxI p l)) ∧ Below w.heap.size w w' := by
  unfold maxLen at hl
  go_enter Try.func105, Try.ntmps105
  go_wp2
  go_loopw [8] (fun i wr => ∃ k : Nat, k ≤ l.length ∧ i = .int .i64 k ∧ (∀ x ∈ l.take k, p x = false) ∧ Below w.heap.size w wr) (fun i _ => l.length - (intOf i).toNat)
  case atStart => exact ⟨0, Nat.zero_le _, rfl, by simp, by (repeat (first | with_reducible exact Below.refl _ _ | with_reducible assumption | with_reducible refine Below.drew ?_ | with_reducible refine Below.drewN ?_ _ | with_reducible refine Below.alloc1 ?_ _ | with_reducible refine Below.setCell1 ?_ (by first | omega | (simp; done) | (simp; omega)) _ | with_reducible refine Below.step ?_ (by with_reducible assumption)))⟩
  case round =>
    obtain ⟨k, hk, rfl, ht, hb⟩ := hrel
    have HT := hide ht
    clear ht
    by_cases hlt : k < l.length
    · obtain ⟨ad, rfl, hadb, c1, c2, c3⟩ := (ha.below hb).en hlt
      go_wp2_with fail
      refine (hg l[k] _ hb).mono ?_; rintro e x0 ⟨rfl, hx0⟩
      by_cases hp : p l[k] = true
      · go_wp2
        go_ret
        exact ⟨ret_int (idxI_at hlt HT.out hp).symm, by (repeat (first | with_reducible exact Below.refl _ _ | with_reducible assumption | with_reducible refine Below.drew ?_ | with_reducible refine Below.drewN ?_ _ | with_reducible refine Below.alloc1 ?_ _ | with_reducible refine Below.setCell1 ?_ (by first | omega | (simp; done) | (simp; omega)) _ | with_reducible refine Below.step ?_ (by with_reducible assumption)))⟩
      · have hp' : p l[k] = false := by simpa using hp
        go_wp2
        go_roundw
        case rel => exact ⟨k + 1, by omega, by go_num, none_take hlt HT.out hp', by (repeat (first | with_reducible exact Below.refl _ _ | with_reducible assumption | with_reducible refine Below.drew ?_ | with_reducible refine Below.drewN ?_ _ | with_reducible refine Below.alloc1 ?_ _ | with_reducible refine Below.setCell1 ?_ (by first | omega | (simp; done) | (simp; omega)) _ | with_reducible refine Below.step ?_ (by with_reducible assumption)))⟩
        case measure => simp [intOf]; omega
    · go_wp2
      go_ret
      exact ⟨ret_int (idxI_none (by have := HT.out; rwa [List.take_of_length_le (by omega)] at this)).symm, by (repeat (first | with_reducible exact Below.refl _ _ | with_reducible assumption | with_reducible refine Below.drew ?_ | with_reducible refine Below.drewN ?_ _ | with_reducible refine Below.alloc1 ?_ _ | with_reducible refine Below.setCell1 ?_ (by first | omega | (simp; done) | (simp; omega)) _ | with_reducible refine Below.step ?_ (by with_reducible assumption)))⟩
set_option maxRecDepth 100000 in
theorem en_ContainsFunc (g : FuncId) (cap : Array Value) (p : En → Bool) (w : World) (eg : ∀ args w, (callFunc g args).run Try.prog w = .ok (.enter g args) w) (hg : ∀ x W, Below w.heap.size w W → Calls Try.prog g (#[enV x] ++ cap) W fun e w' => e = .returned (.bool (p x)) ∧ Below W.heap.size W w')
    (A : Option Addr) (c : Nat) (l : List En) (hl : l.length ≤ maxLen) (ha : Rd w w.heap.size A (enR l)) :
    Calls Try.prog 94 #[.slice A l.length c, .func (.func g) #[] cap] w fun e w' => e = .returned (.bool (l.any p)) ∧ Below w.heap.size w w' := by
  have h := en_IndexFunc g cap p w eg hg A c l hl ha
  rw [← idxI_any]
  generalize idxI p l = r at *
  clear hg eg
  go_enter Try.func94, Try.ntmps94
  go_wp2_with fail
  refine h.mono ?_; rintro e x0 ⟨rfl, hx0⟩
  go_wp2
  go_ret
  exact ⟨rfl, by (repeat (first | with_reducible exact Below.refl _ _ | with_reducible assumption | with_reducible refine Below.drew ?_ | with_reducible refine Below.drewN ?_ _ | with_reducible refine Below.alloc1 ?_ _ | with_reducible refine Below.setCell1 ?_ (by first | omega | (simp; done) | (simp; omega)) _ | with_reducible refine Below.step ?_ (by with_reducible assumption)))⟩
theorem en_info : (Try.prog.info? 146).map (fun i => (i.zero, i.size, i.bytes)) = some (some (enV ⟨0, 0, 0⟩), 3, 24) := by kernel_rfl
set_option maxRecDepth 100000 in
theorem en_Clone (A : Option Addr) (c : Nat) (l : List En) (w : World) (hl : l.length ≤ 1000) (ha : Rd w w.heap.size A (enR l)) :
    Calls Try.prog 73 #[.slice A l.length c] w fun e w' => ∃ B d, e = .returned (.slice B l.length d) ∧ w'.ownsRow w.heap.size 146 3 (.slice B l.length d) l.length (enR l) ∧ Below w.heap.size w w' := by
  obtain ⟨i0, hi, hz0, hz1, hz2⟩ := info_parts en_info
  have hq := fun (w : World) a n c => Go.run_eql_slice_nil (P := Try.prog) w 48 146 a n c Try.underlying48
  have hlen := enR_length l
  go_enter Try.func73, Try.ntmps73
  cases A with
  | none =>
    have hl0 : l = [] := by
      rcases l with _ | ⟨a, l⟩
      · rfl
      · obtain ⟨ad, h, _⟩ := ha (by simp [enR]); cases h
    subst hl0
    go_wp2
    go_ret
    exact ⟨none, 0, rfl, ⟨rfl, .inl ⟨rfl, rfl⟩⟩, by (repeat (first | with_reducible exact Below.refl _ _ | with_reducible assumption | with_reducible refine Below.drew ?_ | with_reducible refine Below.drewN ?_ _ | with_reducible refine Below.alloc1 ?_ _ | with_reducible refine Below.setCell1 ?_ (by first | omega | (simp; done) | (simp; omega)) _ | with_reducible refine Below.step ?_ (by with_reducible assumption)))⟩
  | some ad =>
    have hown : (w.alloc (.cells #[] 146)).ownsRow w.heap.size 146 3 (.slice (some ⟨w.heap.size, 0, none⟩) 0 0) 0 [] := ⟨rfl, .inr ⟨_, 0, #[], rfl, Nat.le_refl _, heap_alloc_new w _, Nat.le_refl _, Nat.zero_le _, rfl, rfl⟩⟩
    have hb1 : Below w.heap.size w (w.alloc (.cells #[] 146)) := by (repeat (first | with_reducible exact Below.refl _ _ | with_reducible assumption | with_reducible refine Below.drew ?_ | with_reducible refine Below.drewN ?_ _ | with_reducible refine Below.alloc1 ?_ _ | with_reducible refine Below.setCell1 ?_ (by first | omega | (simp; done) | (simp; omega)) _ | with_reducible refine Below.step ?_ (by with_reducible assumption)))
    have hs1 : (w.alloc (.cells #[] 146)).heap.size = w.heap.size + 1 := by simp
    have ha1 := ha.below hb1
    go_wp2_with (at_builtin; refine wpList_append_own _ rfl (.tmp 5) (.tmp 6) 48 rfl w.heap.size 146 i0 _ 3 24 Try.underlying48 hi hz0 hz1 hz2 rfl (by omega) (.slice (some ⟨w.heap.size, 0, none⟩) 0 0) 0 [] rfl hown ad l.length c (enR l) rfl (by rw [hlen]; omega) ?c1 (enR_one l) (by unfold maxLen; omega) (by omega) (by omega) ?_; rotate_right; intro v' w' h2 h3 h4)
    case c1 =>
      intro j u hu
      obtain ⟨ad', e, _, hc⟩ := ha1 (by rintro h0; rw [h0] at hu; simp at hu)
      injection e with e; subst e
      exact hc j u hu
    simp only [Nat.zero_add, List.nil_append] at h2
    obtain ⟨B, d, rfl⟩ := own_form h2
    have hb2 : Below w.heap.size w w' := hb1.trans ((Below.refl w.heap.size _).grown h3 (by omega) (fun k hk => by cases hk; exact Nat.le_refl w.heap.size))
    go_wp2
    go_ret
    exact ⟨B, d, rfl, h2, hb2⟩
set_option maxRecDepth 100000 in
theorem en_neq (x y : En) (b : Bool) (hb : b = decide (x = y)) (w' : World) : (binOp .neq 146 (enV x) (enV y)).run Try.prog w' = .ok (.bool (!b)) w' := by
  subst hb
  obtain ⟨x0, x1, x2⟩ := x
  obtain ⟨y0, y1, y2⟩ := y
  have hS : Try.prog.underlying 146 = some (.struct (Try.prog.fieldsOf 146)) := by kernel_rfl
  have hp : Try.prog.stoodInHeld 146 = false := by kernel_rfl
  rw [run_neq_struct, show (10000 : Nat) = 9999 + 1 from rfl, run_equalIn_agg w' 9999 146 _ _ hS hp]
  simp only [Program.fieldsOf, Try.underlying146]
  go_simp
  by_cases h0 : x0 = y0 <;> by_cases h1 : x1 = y1 <;> by_cases h2 : x2 = y2 <;> simp [h0, h1, h2]
set_option maxRecDepth 100000 in
theorem en_Equal (A B : Option Addr) (c d : Nat) (l m : List En) (w : World) (hl : l.length ≤ maxLen) (ha : Rd w w.heap.size A (enR l)) (hb : Rd w w.heap.size B (enR m)) :
    Calls Try.prog 99 #[.slice A l.length c, .slice B m.length d] w fun e w' => e = .returned (.bool (decide (l = m))) ∧ ∃ n, w.drewN n = w' := by
  unfold maxLen at hl
  by_cases hlen : l.length = m.length
  · have hne : ((l.length : Int) != (m.length : Int)) = false := by rw [bne_eq_false_iff_eq]; omega
    have hlen' : l.length ≤ m.length ∧ m.length ≤ l.length := by omega
    have HL := hide hlen
    clear hlen
    go_enter Try.func99, Try.ntmps99
    go_wp2
    go_loopw [13] (fun i wr => ∃ k : Nat, k ≤ l.length ∧ i = .int .i64 k ∧ l.take k = m.take k ∧ ∃ n, w.drewN n = wr) (fun i _ => l.length - (intOf i).toNat)
    case atStart => exact ⟨0, Nat.zero_le _, rfl, rfl, 0, rfl⟩
    case round =>
      obtain ⟨k, hk, rfl, ht, n, rfl⟩ := hrel
      have HT := hide ht
      clear ht
      by_cases hlt : k < l.length
      · obtain ⟨ad, rfl, _, a0, a1, a2⟩ := ha.en hlt
        obtain ⟨bd, rfl, _, b0, b1, b2⟩ := hb.en (k := k) (by omega)
        have h2 : k < m.length := by omega
        have hE := en_neq l[k] m[k]
        by_cases he : l[k] = m[k]
        · have hE1 := hE true (by simp [he])
          have HE := hide he
          clear he hE
          go_wp2_with fail
          go_quiet (fail)
          go_wp2
          go_roundw
          case rel => exact ⟨k + 1, by omega, by go_num, take_eq_succ l m k hlt h2 HT.out HE.out, _, rfl⟩
          case measure => simp [intOf]; omega
        · have hE1 := hE false (by simp [he])
          clear hE
          go_wp2_with fail
          go_quiet (fail)
          go_wp2
          go_ret
          exact ⟨ret_bool (by rw [eq_comm, decide_eq_false_iff_not]; intro e; subst e; exact he rfl), qt_trans ⟨_, rfl⟩ ⟨_, rfl⟩⟩
      · go_wp2
        go_ret
        refine ⟨ret_bool ?_, _, rfl⟩
        have h := HT.out
        rw [List.take_of_length_le (by omega), List.take_of_length_le (by omega)] at h
        rw [eq_comm, decide_eq_true_eq]
        exact h
  · have hne : ((l.length : Int) != (m.length : Int)) = true := by rw [bne_iff_ne]; omega
    go_enter Try.func99, Try.ntmps99
    go_wp2
    go_ret
    exact ⟨ret_bool (by rw [eq_comm, decide_eq_false_iff_not]; intro e; exact hlen (by rw [e])), 0, rfl⟩
end Go.Proofs.Ytolpiaehleefbaa
