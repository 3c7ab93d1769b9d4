/- Package batch: rows of probes; slices' functions at them. -/
import Derived.Test.YtfgfkiifekeeaaaSame
import Derived.Test.YtfgfkiifekeeaaaBaP
import Derived.Test.YtfgfkiifekeeaaaC1
import Derived.Test.YtfgfkiifekeeaaaRef02b
import Derived.Deep.DeepCutAuto
import Derived.Lib.SliceRun
import Derived.Laws.OwnMore
import Derived.Shelf.Abstract
import Derived.Lib.LazyBuf
namespace Go.Proofs.Ytfgfkiifekeeaaa
open Go.RowKit Go.Sort
set_option linter.unusedSimpArgs false
set_option linter.unusedVariables false

/-- the first place at which p holds, or -1 -/
def idxI {α : Type} (p : α → Bool) (l : List α) : Int := if l.any p then (l.findIdx p : Nat) else -1
theorem idxI_at {α : Type} {p : α → Bool} {l : List α} {k : Nat} (hk : k < l.length) (h0 : ∀ x ∈ l.take k, p x = false) (h : p l[k] = true) : idxI p l = k := by
  have ha : l.any p = true := List.any_eq_true.2 ⟨_, List.getElem_mem hk, h⟩
  have : l.findIdx p = k := by
    rw [List.findIdx_eq hk]
    exact ⟨h, fun j hj => h0 _ (by rw [List.mem_take_iff_getElem]; exact ⟨j, by omega, rfl⟩)⟩
  simp [idxI, ha, this]
theorem idxI_none {α : Type} {p : α → Bool} {l : List α} (h0 : ∀ x ∈ l, p x = false) : idxI p l = -1 := by
  have ha : l.any p = false := by rw [Bool.eq_false_iff]; intro h; obtain ⟨x, hx, h⟩ := List.any_eq_true.1 h; rw [h0 x hx] at h; cases h
  simp [idxI, ha]
theorem idxI_any {α : Type} (p : α → Bool) (l : List α) : decide (0 ≤ idxI p l) = l.any p := by
  unfold idxI; cases h : l.any p <;> simp
theorem none_take {α : Type} {p : α → Bool} {l : List α} {k : Nat} (hk : k < l.length) (h0 : ∀ x ∈ l.take k, p x = false) (h : p l[k] = false) : ∀ x ∈ l.take (k + 1), p x = false := by
  intro x hx
  rw [take_snocL l k hk, List.mem_append] at hx
  rcases hx with hx | hx
  · exact h0 x hx
  · simp only [List.mem_singleton] at hx; rw [hx]; exact h

abbrev pbC (x : Pb) : List Value := [.string x.who, .string x.user]
abbrev pbV (x : Pb) : Value := .agg #[.string x.who, .string x.user]
abbrev pbs (l : List Pb) : List Value := l.flatMap pbC
/-- of strings that a statement may hold -/
abbrev Sm (x : Pb) : Prop := x.who.size ≤ 100 ∧ x.user.size ≤ 100
theorem pbs_length (l : List Pb) : (pbs l).length = 2 * l.length := by
  induction l with
  | nil => rfl
  | cons a l ih => simp only [pbs, List.flatMap_cons, List.length_append, List.length_cons] at *; simp only [List.length_nil] at *; omega
theorem pbs_get (l : List Pb) (k : Nat) (h : k < l.length) : (pbs l)[k * 2]? = some (.string l[k].who) ∧ (pbs l)[k * 2 + 1]? = some (.string l[k].user) := by
  induction l generalizing k with
  | nil => simp at h
  | cons a l ih =>
    cases k with
    | zero => simp [pbs]
    | succ k =>
      have := ih k (by simpa using h)
      have e : ∀ j, (pbs (a :: l))[(k + 1) * 2 + j]? = (pbs l)[k * 2 + j]? := fun j => by
        rw [show (k + 1) * 2 + j = (k * 2 + j) + 2 by omega]
        simp [pbs]
      have e0 := e 0
      simp only [Nat.add_zero] at e0
      rw [e0, e 1]
      simpa using this
theorem Rd.pb {w : World} {B : Nat} {A : Option Addr} {l : List Pb} (h : Rd w B A (pbs l)) {k : Nat} (hk : k < l.length) :
    ∃ ad, A = some ad ∧ ad.block < B ∧ w.cell? (ad.add (k * 2)) = some (.string l[k].who) ∧ w.cell? { block := (ad.add (k * 2)).block, off := (ad.add (k * 2)).off + 1 } = some (.string l[k].user) := by
  obtain ⟨ad, e, hb, hc⟩ := h (by intro e; have := pbs_length l; rw [e] at this; simp at this; omega)
  obtain ⟨q0, q1⟩ := pbs_get l k hk
  have f : ∀ (x : Addr) (i : Nat), i ≠ 0 → x.add i = { block := x.block, off := x.off + i } := fun x i hi => by simp [Addr.add, hi]
  exact ⟨ad, e, hb, hc _ _ q0, by rw [← f _ 1 (by omega), add_add']; exact hc _ _ q1⟩
theorem pbs_one (l : List Pb) : ∀ u ∈ pbs l, u.oneCell' = true := by
  intro u hu
  obtain ⟨x, _, hx⟩ := List.mem_flatMap.1 hu
  simp [pbC] at hx
  rcases hx with rfl | rfl <;> simp [Value.oneCell']
theorem pbs_append (a b : List Pb) : pbs (a ++ b) = pbs a ++ pbs b := by simp [pbs]
theorem pbs_take (l : List Pb) (k : Nat) : (pbs l).take (k * 2) = pbs (l.take k) := by
  induction l generalizing k with
  | nil => simp
  | cons a l ih =>
    cases k with
    | zero => simp
    | succ k =>
      have := ih k
      rw [show (k + 1) * 2 = k * 2 + 2 by omega]
      simp only [pbs, List.flatMap_cons, List.take_succ_cons] at *
      rw [show k * 2 + 2 = (pbC a).length + k * 2 by simp [pbC]; omega, List.take_append, Nat.add_sub_cancel_left, this, List.take_of_length_le (by simp [pbC])]
theorem pbs_drop (l : List Pb) (k : Nat) : (pbs l).drop (k * 2) = pbs (l.drop k) := by
  have h1 : pbs l = pbs (l.take k) ++ pbs (l.drop k) := by rw [← pbs_append, List.take_append_drop]
  rw [h1]
  by_cases hk : k ≤ l.length
  · rw [List.drop_left' (by rw [pbs_length]; simp; omega)]
  · rw [List.drop_of_length_le (by rw [List.length_append, pbs_length, pbs_length]; simp; omega), List.drop_of_length_le (by omega)]; rfl
theorem pbs_set2 (l : List Pb) (i : Nat) (g : Pb) (h : i < l.length) : ((pbs l).set (i * 2) (.string g.who)).set (i * 2 + 1) (.string g.user) = pbs (l.set i g) := by
  induction l generalizing i with
  | nil => simp at h
  | cons f r ih =>
    cases i with
    | zero => simp [pbs]
    | succ i =>
      have := ih i (by simpa using h)
      have e : (i + 1) * 2 = i * 2 + 1 + 1 := by omega
      simp only [pbs, List.flatMap_cons, List.set_cons_succ, pbC, List.cons_append, List.nil_append, e] at *
      rw [← this]
theorem ba_list (a b : ByteArray) : a.data.toList = b.data.toList ↔ a = b := ⟨fun h => ba_ext a b h, fun h => by rw [h]⟩
set_option maxRecDepth 100000 in
theorem pb_eq (x y : Pb) (b : Bool) (hb : b = decide (x = y)) : (∀ W, (binOp .eql 60 (pbV x) (pbV y)).run Try.prog W = .ok (.bool b) W) ∧ ∀ W, (binOp .neq 60 (pbV x) (pbV y)).run Try.prog W = .ok (.bool (!b)) W := by
  subst hb
  obtain ⟨x0, x1⟩ := x
  obtain ⟨y0, y1⟩ := y
  have hS : Try.prog.underlying 60 = some (.struct (Try.prog.fieldsOf 60)) := by kernel_rfl
  have hp : Try.prog.stoodInHeld 60 = false := by kernel_rfl
  have e0 := str_beq x0 y0
  have e1 := str_beq x1 y1
  have q0 : decide (x0.data.toList = y0.data.toList) = decide (x0 = y0) := by simp only [ba_list]
  have q1 : decide (x1.data.toList = y1.data.toList) = decide (x1 = y1) := by simp only [ba_list]
  rw [q0] at e0
  rw [q1] at e1
  constructor
  · intro W
    rw [run_eql_struct, show (10000 : Nat) = 9999 + 1 from rfl, run_equalIn_agg W 9999 60 _ _ hS hp]
    simp only [Program.fieldsOf, Try.underlying60]
    go_simp
    by_cases h0 : x0 = y0 <;> by_cases h1 : x1 = y1 <;> simp_all
  · intro W
    rw [run_neq_struct, show (10000 : Nat) = 9999 + 1 from rfl, run_equalIn_agg W 9999 60 _ _ hS hp]
    simp only [Program.fieldsOf, Try.underlying60]
    go_simp
    by_cases h0 : x0 = y0 <;> by_cases h1 : x1 = y1 <;> simp_all

set_option maxRecDepth 100000 in
theorem pb_IndexFunc (g : FuncId) (cap : Array Value) (p : Pb → Bool) (w : World) (eg : ∀ args w, (callFunc g args).run Try.prog w = .ok (.enter g args) w) (l : List Pb) (hg : ∀ x ∈ l, ∀ W, Below w.heap.size w W → Calls Try.prog g (#[pbV x] ++ cap) W fun e w' => e = .returned (.bool (p x)) ∧ Below W.heap.size W w')
    (A : Option Addr) (c : Nat) (hl : l.length ≤ maxLen) (ha : Rd w w.heap.size A (pbs l)) :
    Calls Try.prog 45 #[.slice A l.length c, .func (.func g) #[] cap] w fun e w' => e = .returned (.int .i64 (idxI p l)) ∧ Below w.heap.size w w' := by
  unfold maxLen at hl
  go_enter Try.func45, Try.ntmps45
  go_wp2
  go_loopw [8] (fun i wr => ∃ k : Nat, k ≤ l.length ∧ i = .int .i64 k ∧ (∀ x ∈ l.take k, p x = false) ∧ Below w.heap.size w wr) (fun i _ => l.length - (intOf i).toNat)
  case atStart => exact ⟨0, Nat.zero_le _, rfl, by simp, by (repeat (first | with_reducible exact Below.refl _ _ | with_reducible assumption | with_reducible refine Below.drew ?_ | with_reducible refine Below.drewN ?_ _ | with_reducible refine Below.alloc1 ?_ _ | with_reducible refine Below.setCell1 ?_ (by first | omega | (simp; done) | (simp; omega)) _ | with_reducible refine Below.step ?_ (by with_reducible assumption)))⟩
  case round =>
    obtain ⟨k, hk, rfl, ht, hb⟩ := hrel
    have HT := hide ht
    clear ht
    by_cases hlt : k < l.length
    · obtain ⟨ad, rfl, hadb, c1, c2⟩ := (ha.below hb).pb hlt
      go_wp2_with fail
      refine (hg l[k] (List.getElem_mem hlt) _ hb).mono ?_; rintro e x0 ⟨rfl, hx0⟩
      by_cases hp : p l[k] = true
      · go_wp2
        go_ret
        exact ⟨ret_int (idxI_at hlt HT.out hp).symm, by (repeat (first | with_reducible exact Below.refl _ _ | with_reducible assumption | with_reducible refine Below.drew ?_ | with_reducible refine Below.drewN ?_ _ | with_reducible refine Below.alloc1 ?_ _ | with_reducible refine Below.setCell1 ?_ (by first | omega | (simp; done) | (simp; omega)) _ | with_reducible refine Below.step ?_ (by with_reducible assumption)))⟩
      · have hp' : p l[k] = false := by simpa using hp
        go_wp2
        go_roundw
        case rel => exact ⟨k + 1, by omega, by go_num, none_take hlt HT.out hp', by (repeat (first | with_reducible exact Below.refl _ _ | with_reducible assumption | with_reducible refine Below.drew ?_ | with_reducible refine Below.drewN ?_ _ | with_reducible refine Below.alloc1 ?_ _ | with_reducible refine Below.setCell1 ?_ (by first | omega | (simp; done) | (simp; omega)) _ | with_reducible refine Below.step ?_ (by with_reducible assumption)))⟩
        case measure => simp [intOf]; omega
    · go_wp2
      go_ret
      exact ⟨ret_int (idxI_none (by have := HT.out; rwa [List.take_of_length_le (by omega)] at this)).symm, by (repeat (first | with_reducible exact Below.refl _ _ | with_reducible assumption | with_reducible refine Below.drew ?_ | with_reducible refine Below.drewN ?_ _ | with_reducible refine Below.alloc1 ?_ _ | with_reducible refine Below.setCell1 ?_ (by first | omega | (simp; done) | (simp; omega)) _ | with_reducible refine Below.step ?_ (by with_reducible assumption)))⟩
set_option maxRecDepth 100000 in
theorem pb_ContainsFunc (g : FuncId) (cap : Array Value) (p : Pb → Bool) (w : World) (eg : ∀ args w, (callFunc g args).run Try.prog w = .ok (.enter g args) w) (l : List Pb) (hg : ∀ x ∈ l, ∀ W, Below w.heap.size w W → Calls Try.prog g (#[pbV x] ++ cap) W fun e w' => e = .returned (.bool (p x)) ∧ Below W.heap.size W w')
    (A : Option Addr) (c : Nat) (hl : l.length ≤ maxLen) (ha : Rd w w.heap.size A (pbs l)) :
    Calls Try.prog 36 #[.slice A l.length c, .func (.func g) #[] cap] w fun e w' => e = .returned (.bool (l.any p)) ∧ Below w.heap.size w w' := by
  have h := pb_IndexFunc g cap p w eg l hg A c hl ha
  rw [← idxI_any]
  generalize idxI p l = r at *
  clear hg eg
  go_enter Try.func36, Try.ntmps36
  go_wp2_with fail
  refine h.mono ?_; rintro e x0 ⟨rfl, hx0⟩
  go_wp2
  go_ret
  exact ⟨rfl, by (repeat (first | with_reducible exact Below.refl _ _ | with_reducible assumption | with_reducible refine Below.drew ?_ | with_reducible refine Below.drewN ?_ _ | with_reducible refine Below.alloc1 ?_ _ | with_reducible refine Below.setCell1 ?_ (by first | omega | (simp; done) | (simp; omega)) _ | with_reducible refine Below.step ?_ (by with_reducible assumption)))⟩
theorem pb_info : (Try.prog.info? 60).map (fun i => (i.zero, i.size, i.bytes)) = some (some (pbV ⟨⟨#[]⟩, ⟨#[]⟩⟩), 2, 32) := by kernel_rfl
set_option maxRecDepth 100000 in
theorem pb_Clone (A : Option Addr) (c : Nat) (l : List Pb) (w : World) (hl : l.length ≤ 1000) (ha : Rd w w.heap.size A (pbs l)) :
    Calls Try.prog 34 #[.slice A l.length c] w fun e w' => ∃ B d, e = .returned (.slice B l.length d) ∧ w'.ownsRow w.heap.size 60 2 (.slice B l.length d) l.length (pbs l) ∧ Below w.heap.size w w' := by
  obtain ⟨i0, hi, hz0, hz1, hz2⟩ := info_parts pb_info
  have hq := fun (w : World) a n c => Go.run_eql_slice_nil (P := Try.prog) w 29 60 a n c Try.underlying29
  have hlen := pbs_length l
  go_enter Try.func34, Try.ntmps34
  cases A with
  | none =>
    have hl0 : l = [] := by
      rcases l with _ | ⟨a, l⟩
      · rfl
      · obtain ⟨ad, h, _⟩ := ha (by simp [pbs]); cases h
    subst hl0
    go_wp2
    go_ret
    exact ⟨none, 0, rfl, ⟨rfl, .inl ⟨rfl, rfl⟩⟩, by (repeat (first | with_reducible exact Below.refl _ _ | with_reducible assumption | with_reducible refine Below.drew ?_ | with_reducible refine Below.drewN ?_ _ | with_reducible refine Below.alloc1 ?_ _ | with_reducible refine Below.setCell1 ?_ (by first | omega | (simp; done) | (simp; omega)) _ | with_reducible refine Below.step ?_ (by with_reducible assumption)))⟩
  | some ad =>
    have hown : (w.alloc (.cells #[] 60)).ownsRow w.heap.size 60 2 (.slice (some ⟨w.heap.size, 0, none⟩) 0 0) 0 [] := ⟨rfl, .inr ⟨_, 0, #[], rfl, Nat.le_refl _, heap_alloc_new w _, Nat.le_refl _, Nat.zero_le _, rfl, rfl⟩⟩
    have hb1 : Below w.heap.size w (w.alloc (.cells #[] 60)) := by (repeat (first | with_reducible exact Below.refl _ _ | with_reducible assumption | with_reducible refine Below.drew ?_ | with_reducible refine Below.drewN ?_ _ | with_reducible refine Below.alloc1 ?_ _ | with_reducible refine Below.setCell1 ?_ (by first | omega | (simp; done) | (simp; omega)) _ | with_reducible refine Below.step ?_ (by with_reducible assumption)))
    have hs1 : (w.alloc (.cells #[] 60)).heap.size = w.heap.size + 1 := by simp
    have ha1 := ha.below hb1
    go_wp2_with (at_builtin; refine wpList_append_own _ rfl (.tmp 5) (.tmp 6) 29 rfl w.heap.size 60 i0 _ 2 32 Try.underlying29 hi hz0 hz1 hz2 rfl (by omega) (.slice (some ⟨w.heap.size, 0, none⟩) 0 0) 0 [] rfl hown ad l.length c (pbs l) rfl (by rw [hlen]; omega) ?c1 (pbs_one l) (by unfold maxLen; omega) (by omega) (by omega) ?_; rotate_right; intro v' w' h2 h3 h4)
    case c1 =>
      intro j u hu
      obtain ⟨ad', e, _, hc⟩ := ha1 (by rintro h0; rw [h0] at hu; simp at hu)
      injection e with e; subst e
      exact hc j u hu
    simp only [Nat.zero_add, List.nil_append] at h2
    obtain ⟨B, d, rfl⟩ := own_form h2
    have hb2 : Below w.heap.size w w' := hb1.trans ((Below.refl w.heap.size _).grown h3 (by omega) (fun k hk => by cases hk; exact Nat.le_refl w.heap.size))
    go_wp2
    go_ret
    exact ⟨B, d, rfl, h2, hb2⟩

set_option maxRecDepth 100000 in
theorem pb_Equal (A B : Option Addr) (c d : Nat) (l m : List Pb) (w : World) (hl : l.length ≤ maxLen) (ha : Rd w w.heap.size A (pbs l)) (hb : Rd w w.heap.size B (pbs m)) :
    Calls Try.prog 39 #[.slice A l.length c, .slice B m.length d] w fun e w' => e = .returned (.bool (decide (l = m))) ∧ ∃ n, w.drewN n = w' := by
  unfold maxLen at hl
  by_cases hlen : l.length = m.length
  · have hne : ((l.length : Int) != (m.length : Int)) = false := by rw [bne_eq_false_iff_eq]; omega
    have hlen' : l.length ≤ m.length ∧ m.length ≤ l.length := by omega
    have HL := hide hlen
    clear hlen
    go_enter Try.func39, Try.ntmps39
    go_wp2
    go_loopw [13] (fun i wr => ∃ k : Nat, k ≤ l.length ∧ i = .int .i64 k ∧ l.take k = m.take k ∧ ∃ n, w.drewN n = wr) (fun i _ => l.length - (intOf i).toNat)
    case atStart => exact ⟨0, Nat.zero_le _, rfl, rfl, 0, rfl⟩
    case round =>
      obtain ⟨k, hk, rfl, ht, n, rfl⟩ := hrel
      have HT := hide ht
      clear ht
      by_cases hlt : k < l.length
      · obtain ⟨ad, rfl, _, a0, a1⟩ := ha.pb hlt
        obtain ⟨bd, rfl, _, b0, b1⟩ := hb.pb (k := k) (by omega)
        have h2 : k < m.length := by omega
        have hE := fun (q : Bool) (hq : q = decide (l[k] = m[k])) => (pb_eq l[k] m[k] q hq).2
        by_cases he : l[k] = m[k]
        · have hE1 := hE true (by simp [he])
          have HE := hide he
          clear he hE
          go_wp2_with fail
          go_quiet (fail)
          go_wp2
          go_roundw
          case rel => exact ⟨k + 1, by omega, by go_num, take_eq_succ l m k hlt h2 HT.out HE.out, _, rfl⟩
          case measure => simp [intOf]; omega
        · have hE1 := hE false (by simp [he])
          clear hE
          go_wp2_with fail
          go_quiet (fail)
          go_wp2
          go_ret
          exact ⟨ret_bool (by rw [eq_comm, decide_eq_false_iff_not]; intro e; subst e; exact he rfl), qt_trans ⟨_, rfl⟩ ⟨_, rfl⟩⟩
      · go_wp2
        go_ret
        refine ⟨ret_bool ?_, _, rfl⟩
        have h := HT.out
        rw [List.take_of_length_le (by omega), List.take_of_length_le (by omega)] at h
        rw [eq_comm, decide_eq_true_eq]
        exact h
  · have hne : ((l.length : Int) != (m.length : Int)) = true := by rw [bne_iff_ne]; omega
    go_enter Try.func39, Try.ntmps39
    go_wp2
    go_ret
    exact ⟨ret_bool (by rw [eq_comm, decide_eq_false_iff_not]; intro e; exact hlen (by rw [e])), 0, rfl⟩

set_option maxRecDepth 100000 in
theorem pb_Index (A : Option Addr) (c : Nat) (l : List Pb) (v : Pb) (w : World) (hl : l.length ≤ maxLen) (ha : Rd w w.heap.size A (pbs l)) :
    Calls Try.prog 42 #[.slice A l.length c, pbV v] w fun e w' => e = .returned (.int .i64 (idxI (fun x => decide (v = x)) l)) ∧ Below w.heap.size w w' := by
  unfold maxLen at hl
  go_enter Try.func42, Try.ntmps42
  go_wp2_with fail
  generalize hV : World.alloc w _ = w1
  have hb1 : Below w.heap.size w w1 := by subst hV; (repeat (first | with_reducible exact Below.refl _ _ | with_reducible assumption | with_reducible refine Below.drew ?_ | with_reducible refine Below.drewN ?_ _ | with_reducible refine Below.alloc1 ?_ _ | with_reducible refine Below.setCell1 ?_ (by first | omega | (simp; done) | (simp; omega)) _ | with_reducible refine Below.step ?_ (by with_reducible assumption)))
  have kv : Bk w1 w.heap.size 60 (pbC v) := by subst hV; (repeat (first | with_reducible exact Bk.new' _ _ _ _ (by simp; done) | with_reducible assumption | with_reducible refine Bk.alloc ?_ _ | with_reducible refine Bk.drew ?_ | with_reducible refine Bk.drewN ?_ _ | with_reducible refine Bk.step ?_ (by with_reducible assumption) | with_reducible refine Bk.far ?_ (by first | omega | (simp; done) | (simp; omega)) _))
  have ra := (ha.below hb1).more hb1.size
  clear hV
  go_loopw [5, 8] (fun _ i wr => ∃ k : Nat, k ≤ l.length ∧ i = .int .i64 k ∧ (∀ x ∈ l.take k, decide (v = x) = false) ∧ ∃ n, w1.drewN n = wr) (fun _ i _ => l.length - (intOf i).toNat)
  case atStart => exact ⟨0, Nat.zero_le _, rfl, by simp, 0, rfl⟩
  case round =>
    obtain ⟨k, hk, rfl, ht, n, rfl⟩ := hrel
    have HT := hide ht
    clear ht
    by_cases hlt : k < l.length
    · obtain ⟨ad, rfl, hadb, c1, c2⟩ := ra.pb hlt
      have kv_0 := kv.cell 0; have kv_f0 := kv.frozen 0; have kv_1 := kv.cell 1; have kv_f1 := kv.frozen 1; simp only [List.set_cons_zero, List.set_cons_succ, List.getElem?_cons_zero, List.getElem?_cons_succ] at kv_0 kv_1; have lt_kv := kv.lt
      by_cases hp : v = l[k]
      · have hE1 := (pb_eq v l[k] true (by simp [hp])).1
        have HP := hide hp
        clear hp
        go_wp2_with fail
        go_quiet (fail)
        go_wp2
        go_ret
        exact ⟨ret_int (idxI_at hlt HT.out (by simp [HP.out])).symm, by (repeat (first | with_reducible exact Below.refl _ _ | with_reducible assumption | with_reducible refine Below.drew ?_ | with_reducible refine Below.drewN ?_ _ | with_reducible refine Below.alloc1 ?_ _ | with_reducible refine Below.setCell1 ?_ (by first | omega | (simp; done) | (simp; omega)) _ | with_reducible refine Below.step ?_ (by with_reducible assumption)))⟩
      · have hE1 := (pb_eq v l[k] false (by simp [hp])).1
        have HP := hide hp
        clear hp
        go_wp2_with fail
        go_quiet (fail)
        go_wp2
        go_roundw
        case rel => exact ⟨k + 1, by omega, by go_num, none_take hlt HT.out (by simp [HP.out]), _, rfl⟩
        case measure => simp [intOf]; omega
    · go_wp2
      go_ret
      exact ⟨ret_int (idxI_none (by have := HT.out; rwa [List.take_of_length_le (by omega)] at this)).symm, by (repeat (first | with_reducible exact Below.refl _ _ | with_reducible assumption | with_reducible refine Below.drew ?_ | with_reducible refine Below.drewN ?_ _ | with_reducible refine Below.alloc1 ?_ _ | with_reducible refine Below.setCell1 ?_ (by first | omega | (simp; done) | (simp; omega)) _ | with_reducible refine Below.step ?_ (by with_reducible assumption)))⟩
set_option maxRecDepth 100000 in
theorem pb_Contains (A : Option Addr) (c : Nat) (l : List Pb) (v : Pb) (w : World) (hl : l.length ≤ maxLen) (ha : Rd w w.heap.size A (pbs l)) :
    Calls Try.prog 30 #[.slice A l.length c, pbV v] w fun e w' => e = .returned (.bool (decide (v ∈ l))) ∧ Below w.heap.size w w' := by
  have h := fun W (hB : Below w.heap.size w W) => pb_Index A c l v W hl ((ha.below hB).more hB.size)
  have e : decide (v ∈ l) = l.any (fun x => decide (v = x)) := by
    rw [Bool.eq_iff_iff, decide_eq_true_eq, List.any_eq_true]
    exact ⟨fun h => ⟨v, h, by simp⟩, fun ⟨x, hx, h⟩ => by rw [decide_eq_true_eq] at h; rw [h]; exact hx⟩
  rw [e, ← idxI_any]
  generalize idxI (fun x => decide (v = x)) l = r at *
  clear e
  go_enter Try.func30, Try.ntmps30
  go_wp2_with fail
  refine (h _ (by (repeat (first | with_reducible exact Below.refl _ _ | with_reducible assumption | with_reducible refine Below.drew ?_ | with_reducible refine Below.drewN ?_ _ | with_reducible refine Below.alloc1 ?_ _ | with_reducible refine Below.setCell1 ?_ (by first | omega | (simp; done) | (simp; omega)) _ | with_reducible refine Below.step ?_ (by with_reducible assumption))))).mono ?_; rintro e x0 ⟨rfl, hx0⟩
  go_wp2
  go_ret
  exact ⟨rfl, by (repeat (first | with_reducible exact Below.refl _ _ | with_reducible assumption | with_reducible refine Below.drew ?_ | with_reducible refine Below.drewN ?_ _ | with_reducible refine Below.alloc1 ?_ _ | with_reducible refine Below.setCell1 ?_ (by first | omega | (simp; done) | (simp; omega)) _ | with_reducible refine Below.step ?_ (by with_reducible assumption)))⟩

theorem idxI_two {α : Type} (p : α → Bool) (l : List α) : (idxI p l = -1 ∧ ∀ x ∈ l, p x = false) ∨ ∃ k, ∃ h : k < l.length, idxI p l = k ∧ (∀ x ∈ l.take k, p x = false) ∧ p l[k] = true := by
  cases ha : l.any p with
  | false => exact .inl ⟨by simp [idxI, ha], fun x hx => by rw [List.any_eq_false] at ha; simpa using ha x hx⟩
  | true =>
    have hk : l.findIdx p < l.length := List.findIdx_lt_length.2 (by simpa using ha)
    refine .inr ⟨l.findIdx p, hk, by simp [idxI, ha], fun x hx => ?_, List.findIdx_getElem⟩
    rw [List.mem_take_iff_getElem] at hx
    obtain ⟨j, hj, rfl⟩ := hx
    simpa using List.not_of_lt_findIdx (p := p) (xs := l) (i := j) (by omega)
theorem own_cap30 {w : World} {base : Nat} {e : TypeId} {size n c m : Nat} {A : Option Addr} {xs : List Value} (h : w.ownsRow base e size (.slice A n c) m xs) : m ≤ c ∧ c ≤ 9223372036854775807 := by
  rcases h.2 with ⟨h0, e⟩ | ⟨g, cap, cur, e, _, _, hc, hm, _⟩
  · injection h0 with _ _ h0; omega
  · injection e with _ _ e; subst e; exact ⟨hc, hm⟩
/-- what stays of the first ones -/
abbrev keepN (p : Pb → Bool) (l : List Pb) (j : Nat) : List Pb := (l.take j).filter fun x => !p x
theorem keepN_len (p : Pb → Bool) (l : List Pb) (j : Nat) : (keepN p l j).length ≤ j := by
  have h1 := List.length_filter_le (fun x => !p x) (l.take j)
  have h2 : (l.take j).length ≤ j := by rw [List.length_take]; omega
  exact Nat.le_trans h1 h2
theorem keepN_succ (p : Pb → Bool) (l : List Pb) (j : Nat) (h : j < l.length) : keepN p l (j + 1) = keepN p l j ++ if p l[j] = true then [] else [l[j]] := by
  unfold keepN
  rw [take_snocL l j h, List.filter_append]
  cases hp : p l[j] <;> simp [hp]
theorem keepN_first {p : Pb → Bool} {l : List Pb} {k : Nat} (h : k < l.length) (h0 : ∀ x ∈ l.take k, p x = false) (h1 : p l[k] = true) : keepN p l (k + 1) = l.take k := by
  rw [keepN_succ p l k h, if_pos h1, List.append_nil]
  unfold keepN
  rw [List.filter_eq_self]
  intro x hx
  rw [h0 x hx]; rfl
theorem filt_all {p : Pb → Bool} {l : List Pb} (h : ∀ x ∈ l, p x = false) : (l.filter fun x => !p x) = l := by
  rw [List.filter_eq_self]
  intro x hx
  rw [h x hx]; rfl
theorem own_pb {w : World} {base g c n : Nat} {m : List Pb} (own : w.ownsRow base 60 2 (.slice (some ⟨g, 0, none⟩) n c) n (pbs m)) (hm : m.length = n) {j : Nat} (hj : j < m.length) :
    w.cell? ⟨g, j * 2, none⟩ = some (.string m[j].who) ∧ w.cell? ⟨g, j * 2 + 1, none⟩ = some (.string m[j].user) := by
  obtain ⟨q0, q1⟩ := pbs_get m j hj
  exact ⟨(own.cellAt (j * 2) (by omega)).trans q0, (own.cellAt (j * 2 + 1) (by omega)).trans q1⟩
theorem own_pb_set {w : World} {base g c n : Nat} {m : List Pb} (own : w.ownsRow base 60 2 (.slice (some ⟨g, 0, none⟩) n c) n (pbs m)) {i : Nat} (hi : i < m.length) (v : Pb) :
    ((w.setCell ⟨g, i * 2, none⟩ (.string v.who)).setCell ⟨g, i * 2 + 1, none⟩ (.string v.user)).ownsRow base 60 2 (.slice (some ⟨g, 0, none⟩) n c) n (pbs (m.set i v)) := by
  rw [← pbs_set2 m i v hi]
  exact (World.ownsRow.stored (World.ownsRow.stored own _ _).1 _ _).1
set_option maxRecDepth 100000 in
set_option maxHeartbeats 4000000 in
theorem pb_DeleteFunc (g : FuncId) (cap : Array Value) (p : Pb → Bool) (base : Nat) (w : World) (eg : ∀ args w, (callFunc g args).run Try.prog w = .ok (.enter g args) w) (l : List Pb) (hg : ∀ x ∈ l, ∀ W, Below base w W → Calls Try.prog g (#[pbV x] ++ cap) W fun e w' => e = .returned (.bool (p x)) ∧ Below W.heap.size W w')
    (A : Option Addr) (c : Nat) (hl : l.length ≤ 1000) (hbase : base ≤ w.heap.size) (own : w.ownsRow base 60 2 (.slice A l.length c) l.length (pbs l)) :
    Calls Try.prog 33 #[.slice A l.length c, .func (.func g) #[] cap] w fun e w' => e = .returned (.slice A (l.filter fun x => !p x).length c) ∧ w'.ownsRow base 60 2 (.slice A (l.filter fun x => !p x).length c) (l.filter fun x => !p x).length (pbs (l.filter fun x => !p x)) ∧ Below base w w' := by
  have hI := pb_IndexFunc g cap p w eg l (fun x hx W h => hg x hx W (h.mono hbase)) A c (by unfold maxLen; omega) (own_rd own)
  rcases idxI_two p l with ⟨e0, h0⟩ | ⟨k0, hk0, e0, h0, h1⟩
  · rw [e0] at hI
    rw [filt_all h0]
    clear hg eg
    go_enter Try.func33, Try.ntmps33
    go_wp2_with fail
    refine hI.mono ?_; rintro e x0 ⟨rfl, hx0⟩
    go_wp2
    go_ret
    exact ⟨rfl, own_below own hx0 (Nat.le_refl _), hx0.mono hbase⟩
  · rw [e0] at hI
    obtain ⟨i0, hi, hz0, hz1, hz2⟩ := info_parts pb_info
    obtain ⟨gA, cA, hA, hgb, hgl⟩ := own_some own (by omega)
    injection hA with hA _ hc
    subst hA hc
    have hcap := own_cap30 own
    have hK := keepN_first hk0 h0 h1
    have HKF := hide (show keepN p l l.length = l.filter fun x => !p x from by unfold keepN; rw [List.take_length])
    have hkl : (k0 : Int) ≠ -1 := by omega
    have hkl2 : ((k0 : Int) == -1) = false := by rw [beq_eq_false_iff_ne]; exact hkl
    clear h0 h1 e0
    go_enter Try.func33, Try.ntmps33
    go_wp2_with fail
    refine hI.mono ?_; rintro e x0 ⟨rfl, hx0⟩
    have own0 := own_below own hx0 (Nat.le_refl _)
    have hb0 : Below base w x0 := hx0.mono hbase
    clear hx0 hI own
    go_wp2_with fail
    go_loopw [5, 6] (fun iv jv wr => ∃ (i j : Nat) (m : List Pb), j ≤ l.length ∧ jv = .int .i64 j ∧ iv = .int .i64 i ∧ Hid (i = (keepN p l j).length) ∧ i < j ∧ m.length = l.length ∧ Hid (m.take i = keepN p l j) ∧ Hid (m.drop j = l.drop j) ∧ wr.ownsRow base 60 2 (.slice (some ⟨gA, 0, none⟩) l.length c) l.length (pbs m) ∧ Below base w wr) (fun _ jv _ => l.length - (intOf jv).toNat)
    case atStart => exact ⟨k0, k0 + 1, l, by omega, by go_num, rfl, by unfold Hid; rw [hK, List.length_take]; omega, by omega, rfl, hK.symm, rfl, own0, hb0⟩
    case round =>
      clear own0 hb0 hK hkl hkl2
      obtain ⟨i, j, m, hj, rfl, rfl, HI, hij, hml, HT, HD, own, hb⟩ := hrel
      by_cases hlt : j < l.length
      · have hjm : j < m.length := by omega
        have hmj : m[j] = l[j] := by
          have e1 := List.getElem?_eq_getElem hjm
          have e2 : (m.drop j)[0]? = m[j]? := by simp
          rw [HD.out] at e2
          simp [hlt, hjm] at e2
          exact e2.symm
        obtain ⟨c0, c1⟩ := own_pb own hml hjm
        rw [hmj] at c0 c1
        have HS := hide (keepN_succ p l j hlt)
        have hD1 : Hid (∀ (m' : List Pb), m'.drop (j + 1) = m.drop (j + 1) → m'.drop (j + 1) = l.drop (j + 1)) := fun m' h => by
          rw [h, ← List.drop_drop, ← List.drop_drop, HD.out]
        clear hmj HD
        have hgv := hg l[j] (List.getElem_mem hlt)
        generalize l[j] = v at *
        have lg := (own.lt gA rfl).2
        go_wp2_with fail
        generalize hV : World.alloc wr _ = w1
        have hy : Below wr.heap.size wr w1 := by subst hV; (repeat (first | with_reducible exact Below.refl _ _ | with_reducible assumption | with_reducible refine Below.drew ?_ | with_reducible refine Below.drewN ?_ _ | with_reducible refine Below.alloc1 ?_ _ | with_reducible refine Below.setCell1 ?_ (by first | omega | (simp; done) | (simp; omega)) _ | with_reducible refine Below.step ?_ (by with_reducible assumption)))
        have kv : Bk w1 wr.heap.size 60 (pbC v) := by subst hV; (repeat (first | with_reducible exact Bk.new' _ _ _ _ (by simp; done) | with_reducible assumption | with_reducible refine Bk.alloc ?_ _ | with_reducible refine Bk.drew ?_ | with_reducible refine Bk.drewN ?_ _ | with_reducible refine Bk.step ?_ (by with_reducible assumption) | with_reducible refine Bk.far ?_ (by first | omega | (simp; done) | (simp; omega)) _))
        clear hV c0 c1
        replace own := own_below own hy (Nat.le_refl _)
        replace hb : Below base w w1 := hb.trans (hy.mono (Nat.le_trans hbase hb.size))
        clear hy
        have kv_0 := kv.cell 0; have kv_f0 := kv.frozen 0; have kv_1 := kv.cell 1; have kv_f1 := kv.frozen 1; simp only [List.set_cons_zero, List.set_cons_succ, List.getElem?_cons_zero, List.getElem?_cons_succ] at kv_0 kv_1; have lt_kv := kv.lt
        refine (hgv _ hb).mono ?_; rintro e w5 ⟨rfl, hy5⟩
        replace kv := kv.step hy5; (try clear kv_0 kv_f0 kv_1 kv_f1); have kv_0 := kv.cell 0; have kv_f0 := kv.frozen 0; have kv_1 := kv.cell 1; have kv_f1 := kv.frozen 1; simp only [List.set_cons_zero, List.set_cons_succ, List.getElem?_cons_zero, List.getElem?_cons_succ] at kv_0 kv_1; (try clear lt_kv); have lt_kv := kv.lt
        replace own := own_below own hy5 (Nat.le_refl _)
        replace hb : Below base w w5 := hb.trans (hy5.mono (Nat.le_trans hbase hb.size))
        clear hy5 hgv
        by_cases hp : p v = true
        · rw [if_pos hp, List.append_nil] at HS
          have hI2 : Hid (i = (keepN p l (j + 1)).length) := by unfold Hid; rw [HS.out]; exact HI.out
          have hT2 : Hid (m.take i = keepN p l (j + 1)) := by unfold Hid; rw [HS.out]; exact HT.out
          have hD2 := hide (hD1.out m rfl)
          go_wp2_with fail
          go_roundw
          case rel => exact ⟨i, j + 1, m, by omega, by go_num, rfl, hI2, by omega, hml, hT2, hD2, own, hb⟩
          case measure => simp [intOf]; omega
        · have hp2 : p v = false := by simpa using hp
          rw [if_neg hp] at HS
          have him : i < m.length := by omega
          have hI2 : Hid (i + 1 = (keepN p l (j + 1)).length) := by unfold Hid; rw [HS.out, List.length_append, ← HI.out]; rfl
          have hT2 : Hid ((m.set i v).take (i + 1) = keepN p l (j + 1)) := by
            unfold Hid
            rw [HS.out, ← HT.out, List.take_succ_eq_append_getElem (by rw [List.length_set]; exact him), List.getElem_set_self, List.take_set_of_le (Nat.le_refl i)]
          have hD2 := hide (hD1.out (m.set i v) (by rw [List.drop_set_of_lt (by omega)]))
          obtain ⟨d0, d1⟩ := own_pb own hml him
          have f0 := own.frozenAt (i * 2)
          have f1 := own.frozenAt (i * 2 + 1)
          have hil : (i : Int) < (l.length : Int) := by omega
          have own7 := own_pb_set own him v
          clear hp
          go_wp2_with fail
          exact ⟨⟨i + 1, j + 1, m.set i v, by omega, by go_num, by go_num, hI2, by omega, by rw [List.length_set]; exact hml, hT2, hD2, own7, (hb.setCell (by dsimp only; omega) _).setCell (by dsimp only; omega) _⟩, by simp [intOf]; omega⟩
      · have hjl : j = l.length := by omega
        subst hjl
        have hTF := HT.out
        rw [HKF.out] at hTF
        have hIF := HI.out
        rw [HKF.out] at hIF
        have ownT := own_take own (Nat.le_of_lt hij)
        rw [pbs_take, hTF] at ownT
        obtain ⟨k, hk⟩ : ∃ k, l.length - i = k + 1 := ⟨l.length - i - 1, by omega⟩
        have oz := own_clear (size := 2) (c' := c - i) (k := k) Try.underlying29 hi hz0 rfl (by intro u hu; simp [Value.cells] at hu; rcases hu with rfl | rfl <;> simp [Value.oneCell']) ownT (by omega)
        obtain ⟨w2, hcl, own2, hg2⟩ := oz
        rw [← hk] at hcl
        have HIF := hide hIF
        have hci : ¬ c = i := by omega
        have hil : i ≤ l.length := by omega
        have hil2 : (i : Int) ≤ (l.length : Int) := by omega
        have hb2 : Below base w w2 := hb.trans (Gr.below hg2 hgb (Nat.le_trans hbase hb.size))
        clear hk HI HT HD hTF hIF HKF own ownT hg2 hb
        go_wp2
        go_ret
        rw [← HIF.out]
        exact ⟨rfl, own2, hb2⟩

end Go.Proofs.Ytfgfkiifekeeaaa
