/- Arguments opened: what a reading of a type says of the cells that are read, type by type, in Lean's own data. No program in sight. -/
import Derived.Test.YtfbllioegeadfaaDoorMem
import Derived.ProofKit
import Derived.OpenShut
import Derived.Deep.Slices
namespace Go.Proofs.YtfbllioegeadfaaDoor
open Go.ChangeShapes Go.WideShapes Go.ChangeAt Go.RowKit Go.Deep
set_option linter.unusedSimpArgs false
set_option linter.unusedVariables false

/-- A reading of cells at type t (in world W, all of memory open) says: they are f of some datum that is good. -/
def Opens (P : Program) (W : World) (t : TypeId) {α : Type} (f : α → List Value) (good : α → Prop) : Prop :=
  ∀ (H : Type) (enc : TypeId × Value → H) (n : Nat) (cs : List Value) (x : DataW H × List MemPlace), DataW.trod enc P W 0 (fun _ => true) true n t cs = some x → ∃ a : α, cs = f a ∧ good a

section
variable {P : Program} {W : World} {t : TypeId}
theorem Opens.map {α β : Type} {f : α → List Value} {g : α → Prop} {f' : β → List Value} {g' : β → Prop} (h : Opens P W t f g) (e : α → β) (hf : ∀ a, f a = f' (e a)) (hg : ∀ a, g a → g' (e a)) : Opens P W t f' g' :=
  fun H enc n cs x hx => by
    obtain ⟨a, rfl, ha⟩ := h H enc n cs x hx
    exact ⟨e a, hf a, hg a ha⟩
theorem Opens.int {k : IntKind} (ht : P.underlying t = some (.int k)) : Opens P W t (fun n : Int => [.int k n]) (fun n => (Lit.int k n).wf = true) :=
  fun H enc n cs x hx => by
    obtain ⟨m, rfl, _, hw⟩ := DataW.trod_int ht hx
    exact ⟨m, rfl, hw⟩
theorem Opens.bool (ht : P.underlying t = some .bool) : Opens P W t (fun b : Bool => [.bool b]) (fun _ => True) :=
  fun H enc n cs x hx => by
    obtain ⟨m, rfl, _⟩ := DataW.trod_bool ht hx
    exact ⟨m, rfl, trivial⟩
theorem Opens.string (ht : P.underlying t = some .string) : Opens P W t (fun s : ByteArray => [.string s]) (fun s => s.size ≤ maxLen) :=
  fun H enc n cs x hx => by
    obtain ⟨s, rfl, _, hs⟩ := DataW.trod_string ht hx
    exact ⟨s, rfl, hs⟩

/-- The integers' bounds. -/
theorem wf_i64 {n : Int} (h : (Lit.int .i64 n).wf = true) : -9223372036854775808 ≤ n ∧ n ≤ 9223372036854775807 := by
  simpa [Lit.wf, IntKind.min, IntKind.max, IntKind.signed, IntKind.bits] using h
theorem wf_u8 {n : Int} (h : (Lit.int .u8 n).wf = true) : 0 ≤ n ∧ n ≤ 255 := by
  simpa [Lit.wf, IntKind.min, IntKind.max, IntKind.signed, IntKind.bits] using h
theorem wf_u16 {n : Int} (h : (Lit.int .u16 n).wf = true) : 0 ≤ n ∧ n ≤ 65535 := by
  simpa [Lit.wf, IntKind.min, IntKind.max, IntKind.signed, IntKind.bits] using h
theorem wf_u32 {n : Int} (h : (Lit.int .u32 n).wf = true) : 0 ≤ n ∧ n ≤ 4294967295 := by
  simpa [Lit.wf, IntKind.min, IntKind.max, IntKind.signed, IntKind.bits] using h
theorem wf_u64 {n : Int} (h : (Lit.int .u64 n).wf = true) : 0 ≤ n ∧ n ≤ 18446744073709551615 := by
  simpa [Lit.wf, IntKind.min, IntKind.max, IntKind.signed, IntKind.bits] using h
theorem Opens.i64 (ht : P.underlying t = some (.int .i64)) : Opens P W t (fun n : Int => [.int .i64 n]) (fun n => -9223372036854775808 ≤ n ∧ n ≤ 9223372036854775807) := (Opens.int ht).map id (fun _ => rfl) fun _ => wf_i64
theorem Opens.u8 (ht : P.underlying t = some (.int .u8)) : Opens P W t (fun n : Int => [.int .u8 n]) (fun n => 0 ≤ n ∧ n ≤ 255) := (Opens.int ht).map id (fun _ => rfl) fun _ => wf_u8
theorem Opens.u16 (ht : P.underlying t = some (.int .u16)) : Opens P W t (fun n : Int => [.int .u16 n]) (fun n => 0 ≤ n ∧ n ≤ 65535) := (Opens.int ht).map id (fun _ => rfl) fun _ => wf_u16
theorem Opens.u32 (ht : P.underlying t = some (.int .u32)) : Opens P W t (fun n : Int => [.int .u32 n]) (fun n => 0 ≤ n ∧ n ≤ 4294967295) := (Opens.int ht).map id (fun _ => rfl) fun _ => wf_u32
theorem Opens.u64 (ht : P.underlying t = some (.int .u64)) : Opens P W t (fun n : Int => [.int .u64 n]) (fun n => 0 ≤ n ∧ n ≤ 18446744073709551615) := (Opens.int ht).map id (fun _ => rfl) fun _ => wf_u64

/-- A slice as it is handed on: where it lies, what it holds, its capacity. -/
structure Sl (α : Type) where
  A : Option Addr
  l : List α
  c : Nat
def Sl.val {α : Type} (s : Sl α) : Value := .slice s.A s.l.length s.c

theorem block_lt_of_cell {w : World} {a : Addr} {v : Value} (h : w.cell? a = some v) : a.block < w.heap.size := by
  rcases Nat.lt_or_ge a.block w.heap.size with hlt | hge
  · exact hlt
  · unfold World.cell? at h
    rw [Array.getElem?_eq_none hge] at h
    simp at h

/-- rows of equal width, laid one behind the other -/
theorem flatMap_get {α : Type} (f : α → List Value) (k : Nat) (l : List α) (hk : ∀ a ∈ l, (f a).length = k) :
    ∀ (i j : Nat), j < k → (l.flatMap f)[i * k + j]? = (l[i]?).bind (fun a => (f a)[j]?) := by
  induction l with
  | nil => intro i j _; simp
  | cons a l ih =>
    intro i j hj
    have ha : (f a).length = k := hk a (by simp)
    have ih' := ih (fun b hb => hk b (by simp [hb]))
    cases i with
    | zero =>
      rw [List.flatMap_cons, List.getElem?_append_left (by omega)]
      simp
    | succ i =>
      rw [List.flatMap_cons, List.getElem?_append_right (by rw [ha, Nat.succ_mul]; omega)]
      rw [show (i + 1) * k + j - (f a).length = i * k + j by rw [ha, Nat.succ_mul]; omega, ih' i j hj]
      simp
theorem flatMap_length' {α : Type} (f : α → List Value) (k : Nat) (l : List α) (hk : ∀ a ∈ l, (f a).length = k) : (l.flatMap f).length = l.length * k := by
  induction l with
  | nil => simp
  | cons a l ih =>
    rw [List.flatMap_cons, List.length_append, hk a (by simp), ih (fun b hb => hk b (by simp [hb])), List.length_cons, Nat.succ_mul]; omega

theorem Opens.slice {α : Type} {f : α → List Value} {good : α → Prop} {e : TypeId} {k : Nat} (ht : P.underlying t = some (.slice e)) (hk : P.cellsOf e = k) (hk0 : 0 < k) (hfk : ∀ a, good a → (f a).length = k) (he : Opens P W e f good) :
    Opens P W t (fun s : Sl α => [s.val]) (fun s => Rd W W.heap.size s.A (s.l.flatMap f) ∧ (∀ a ∈ s.l, good a) ∧ s.l.length ≤ s.c ∧ s.c ≤ maxLen) :=
  fun H enc n cs x hx => by
    rcases open_slice ht hx with ⟨rfl, _⟩ | ⟨ad, len, cap, m, n', D, Pl, rfl, _, hl, hm, hmm, _, hi⟩
    · exact ⟨⟨none, [], 0⟩, rfl, Rd.nil, by simp, Nat.le_refl _, Nat.zero_le _⟩
    · simp only [if_true] at hmm
      subst hmm
      rw [hk] at hi
      have hel : ∀ j, j ≤ len → ∃ l : List α, l.length = j ∧ ∀ i a, l[i]? = some a → W.cells? 0 (ad.add (i * k)) k = some (f a) ∧ good a := by
        intro j
        induction j with
        | zero => intro _; exact ⟨[], rfl, by simp⟩
        | succ j ih =>
          intro hj
          obtain ⟨l, hlen, hl'⟩ := ih (by omega)
          obtain ⟨cs', hc, htr⟩ := hi j (by omega)
          obtain ⟨a, rfl, ha⟩ := he H enc n' cs' _ htr
          refine ⟨l ++ [a], by simp [hlen], fun i b hb => ?_⟩
          rcases Nat.lt_or_ge i l.length with hlt | hge
          · rw [List.getElem?_append_left hlt] at hb; exact hl' i b hb
          · rw [List.getElem?_append_right hge] at hb
            rcases Nat.eq_zero_or_pos (i - l.length) with h0 | h0
            · rw [h0] at hb
              simp at hb
              subst hb
              obtain rfl : i = j := by omega
              exact ⟨hc, ha⟩
            · rw [List.getElem?_eq_none (by simp; omega)] at hb
              cases hb
      obtain ⟨l, hlen, hall⟩ := hel len (Nat.le_refl _)
      have hgood : ∀ a ∈ l, good a := fun a ha => by
        obtain ⟨i, hi', rfl⟩ := List.getElem_of_mem ha
        exact (hall i _ (List.getElem?_eq_getElem hi')).2
      refine ⟨⟨some ad, l, m⟩, by simp [Sl.val, hlen], ?_, hgood, by simpa [hlen] using hl, hm⟩
      have hk' := fun a ha => hfk a (hgood a ha)
      have hget : ∀ j u, (l.flatMap f)[j]? = some u → W.cell? (ad.add j) = some u := by
        intro j u hu
        have hj : j / k * k + j % k = j := by rw [Nat.mul_comm]; exact Nat.div_add_mod j k
        have hmod : j % k < k := Nat.mod_lt _ hk0
        rw [← hj, flatMap_get f k l hk' _ _ hmod] at hu
        cases hla : l[j / k]? with
        | none => rw [hla] at hu; simp at hu
        | some a =>
          rw [hla] at hu
          obtain ⟨_, _, hc⟩ := World.cells?_some (hall _ _ hla).1
          have := hc (j % k) hmod
          rw [add_add', hj] at this
          rw [this]
          exact hu
      intro hn
      have h0 : 0 < (l.flatMap f).length := List.length_pos_iff.2 hn
      have hc0 := hget 0 _ (List.getElem?_eq_getElem h0)
      have hb := block_lt_of_cell hc0
      rw [add_block] at hb
      exact ⟨ad, rfl, hb, hget⟩

theorem flatMap_one {α : Type} (g : α → Value) (l : List α) : l.flatMap (fun a => [g a]) = l.map g := by
  induction l with
  | nil => rfl
  | cons a l ih => simp [List.flatMap_cons, ih]
theorem Rd.of1 {α : Type} {w : World} {B : Nat} {A : Option Addr} {g : α → Value} {l : List α} (h : Rd w B A (l.flatMap (fun a => [g a]))) : Rd w B A (l.map g) := by rwa [flatMap_one] at h

/-- Consecutive fields. -/
def OpensL (P : Program) (W : World) (ts : List TypeId) {α : Type} (f : α → List Value) (good : α → Prop) : Prop :=
  ∀ (H : Type) (enc : TypeId × Value → H) (n : Nat) (cs : List Value), cs.length = (ts.map P.cellsOf).sum →
    (∀ i t, ts[i]? = some t → ∃ x, DataW.trod enc P W 0 (fun _ => true) true n t ((cs.drop ((ts.take i).map P.cellsOf).sum).take (P.cellsOf t)) = some x) → ∃ a : α, cs = f a ∧ good a
theorem OpensL.nil : OpensL P W [] (fun _ : Unit => []) (fun _ => True) := fun H enc n cs hlen _ => ⟨(), by simpa using hlen, trivial⟩
theorem OpensL.cons {t : TypeId} {ts : List TypeId} {α β : Type} {f : α → List Value} {g : α → Prop} {f' : β → List Value} {g' : β → Prop} (h : Opens P W t f g) (hs : OpensL P W ts f' g') :
    OpensL P W (t :: ts) (fun p : α × β => f p.1 ++ f' p.2) (fun p => g p.1 ∧ g' p.2) := fun H enc n cs hlen hall => by
  obtain ⟨x, hx⟩ := hall 0 t rfl
  simp at hx
  obtain ⟨a, ha, hga⟩ := h H enc n _ _ hx
  obtain ⟨b, hb, hgb⟩ := hs H enc n (cs.drop (P.cellsOf t)) (by simp at hlen ⊢; omega) (fun i u hu => by
    obtain ⟨y, hy⟩ := hall (i + 1) u (by simpa using hu)
    refine ⟨y, ?_⟩
    rw [List.drop_drop]
    simpa using hy)
  exact ⟨(a, b), by show cs = f a ++ f' b; rw [← ha, ← hb, List.take_append_drop], hga, hgb⟩

/-- the fields' places are the sums of the sizes ahead of them (a closed fact) -/
def fieldsFit (P : Program) (t : TypeId) (fs : Array Field) (ts : List TypeId) : Bool :=
  (fs.toList.map (·.type) == ts) && (fs.toList.map (·.offset) == (List.range ts.length).map (fun i => ((ts.take i).map P.cellsOf).sum)) && (P.cellsOf t == (ts.map P.cellsOf).sum)
theorem Opens.struct {α : Type} {f : α → List Value} {g : α → Prop} {fs : Array Field} {ts : List TypeId} (ht : P.underlying t = some (.struct fs)) (hf : fieldsFit P t fs ts = true) (h : OpensL P W ts f g) : Opens P W t f g :=
  fun H enc n cs x hx => by
    obtain ⟨xs, m, rfl, _, hlen, hxs, hall⟩ := DataW.trod_struct ht hx
    simp only [fieldsFit, Bool.and_eq_true, beq_iff_eq] at hf
    obtain ⟨⟨hty, hoff⟩, hsz⟩ := hf
    refine h H enc m cs (by rw [hlen, hsz]) (fun i u hu => ?_)
    have hi : i < fs.size := by
      have : i < ts.length := by
        rcases Nat.lt_or_ge i ts.length with h | h
        · exact h
        · rw [List.getElem?_eq_none h] at hu; cases hu
      rw [← hty] at this
      simpa using this
    have hfi := hall i fs[i] (Array.getElem?_eq_getElem hi)
    have hu' : fs[i].type = u := by
      rw [← hty] at hu
      simp [hi] at hu
      exact hu
    have ho : fs[i].offset = ((ts.take i).map P.cellsOf).sum := by
      have h2 : (fs.toList.map (·.offset))[i]? = ((List.range ts.length).map (fun i => ((ts.take i).map P.cellsOf).sum))[i]? := by rw [hoff]
      have hil : i < ts.length := by rw [← hty]; simpa using hi
      simpa [hi, hil] using h2
    rw [hu', ho] at hfi
    exact ⟨xs[i]'(by omega), hfi.trans (List.getElem?_eq_getElem _)⟩

/-- An array of a known length. -/
theorem Opens.array {α : Type} {f : α → List Value} {g : α → Prop} {m : Nat} {e : TypeId} (ht : P.underlying t = some (.array m e)) (hsz : P.cellsOf t = m * P.cellsOf e) (h : OpensL P W (List.replicate m e) f g) : Opens P W t f g :=
  fun H enc n cs x hx => by
    obtain ⟨xs, n', rfl, _, hlen, hxs, hall⟩ := DataW.trod_array ht hx
    refine h H enc n' cs (by rw [hlen, hsz]; simp) (fun i u hu => ?_)
    have hi : i < m := by
      rcases Nat.lt_or_ge i m with h | h
      · exact h
      · rw [List.getElem?_eq_none (by simpa using h)] at hu; cases hu
    have hu' : e = u := by simp [hi] at hu; exact hu
    subst hu'
    have := hall i hi
    refine ⟨xs[i]'(by omega), ?_⟩
    rw [show (((List.replicate m e).take i).map P.cellsOf).sum = i * P.cellsOf e by simp [List.take_replicate, Nat.min_eq_left (Nat.le_of_lt hi)]]
    exact this.trans (List.getElem?_eq_getElem _)

/-- The value of an argument: of one cell; of several. -/
theorem Opens.one {α : Type} {f : α → Value} {g : α → Prop} {H : Type} {enc : TypeId × Value → H} {v : Value} {d : DataW H} {p : List MemPlace} (h : Opens P W t (fun a => [f a]) g)
    (hv : ∀ cs, v ≠ .agg cs) (hr : DataW.Trod enc P W 0 (fun _ => true) true t v d p) : ∃ a, v = f a ∧ g a := by
  obtain ⟨n, hn⟩ := hr
  obtain ⟨a, ha, hg⟩ := h H enc n _ _ hn
  refine ⟨a, ?_, hg⟩
  cases v <;> first | (exact absurd rfl (hv _)) | (simp [Value.cells] at ha; exact ha)
theorem Opens.many {α : Type} {f : α → List Value} {g : α → Prop} {H : Type} {enc : TypeId × Value → H} {v : Value} {d : DataW H} {p : List MemPlace} (h : Opens P W t f g)
    (hv : ∃ cs, v = .agg cs) (hr : DataW.Trod enc P W 0 (fun _ => true) true t v d p) : ∃ a, v = .agg (f a).toArray ∧ g a := by
  obtain ⟨cs, rfl⟩ := hv
  obtain ⟨n, hn⟩ := hr
  obtain ⟨a, ha, hg⟩ := h H enc n _ _ hn
  exact ⟨a, by simp [Value.cells] at ha; rw [← ha], hg⟩
theorem agg_struct {r : Reach} {b : Nat} {fs : Array Field} {v : Value} (ht : P.underlying t = some (.struct fs)) (h : Value.okWide P W r b t v) : ∃ cs, v = .agg cs := by
  simp only [Value.okWide, ht] at h
  obtain ⟨cs, hv, _⟩ := h
  exact ⟨cs, hv⟩
theorem agg_array {r : Reach} {b : Nat} {m : Nat} {e : TypeId} {v : Value} (ht : P.underlying t = some (.array m e)) (h : Value.okWide P W r b t v) : ∃ cs, v = .agg cs := by
  simp only [Value.okWide, ht] at h
  obtain ⟨cs, hv, _⟩ := h
  exact ⟨cs, hv⟩
theorem noAgg_int {r : Reach} {b : Nat} {k : IntKind} {v : Value} (ht : P.underlying t = some (.int k)) (h : Value.okWide P W r b t v) : ∀ cs, v ≠ .agg cs := by
  rintro cs rfl
  simp [Value.okWide, Cell.okWide, Cell.ok, ht] at h
theorem noAgg_bool {r : Reach} {b : Nat} {v : Value} (ht : P.underlying t = some .bool) (h : Value.okWide P W r b t v) : ∀ cs, v ≠ .agg cs := by
  rintro cs rfl
  simp [Value.okWide, Cell.okWide, Cell.ok, ht] at h
theorem noAgg_string {r : Reach} {b : Nat} {v : Value} (ht : P.underlying t = some .string) (h : Value.okWide P W r b t v) : ∀ cs, v ≠ .agg cs := by
  rintro cs rfl
  simp [Value.okWide, Cell.okWide, Cell.ok, ht] at h
theorem noAgg_slice {r : Reach} {b : Nat} {e : TypeId} {v : Value} (ht : P.underlying t = some (.slice e)) (h : Value.okWide P W r b t v) : ∀ cs, v ≠ .agg cs := by
  rintro cs rfl
  simp [Value.okWide, Cell.okWide, Cell.ok, ht] at h
end
end Go.Proofs.YtfbllioegeadfaaDoor
