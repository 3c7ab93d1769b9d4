/- Rows that are read, kept over stores and appends elsewhere; whole structs laid into a block. No program in sight. -/
import Derived.Test.YtfbllioegeadfaaDoorIns
namespace Go.Proofs.YtfbllioegeadfaaDoor
open Go.RowKit Go.Sort
set_option linter.unusedSimpArgs false
set_option linter.unusedVariables false

theorem Rd.keep1 {w : World} {B : Nat} {A : Option Addr} {xs : List Value} (h : Rd w B A xs) {p : Addr} (hne : ∀ ad, A = some ad → ad.block ≠ p.block) (u : Value) : Rd (w.setCell p u) B A xs := fun hn => by
  obtain ⟨ad, e, hb, hc⟩ := h hn
  have := hne ad e
  exact ⟨ad, e, hb, fun j v hv => (World.cell?_setCell_other _ _ _ _ (by intro e2; have := congrArg Addr.block e2; rw [add_block] at this; omega)).trans (hc j v hv)⟩
theorem Rd.kept {w w' : World} {A : Option Addr} {xs : List Value} {row : Option Nat} (h : Rd w w.heap.size A xs) (hg : w.grownBy w' row) (hne : ∀ ad, A = some ad → row ≠ some ad.block) : Rd w' w'.heap.size A xs := fun hn => by
  obtain ⟨ad, e, hb, hc⟩ := h hn
  refine ⟨ad, e, Nat.lt_of_lt_of_le hb hg.size, fun j v hj => ?_⟩
  have h1 := hg.block ad.block hb (fun e2 => hne ad e (by rw [← e2]))
  have h2 := hc j v hj
  unfold World.cell? at h2 ⊢
  rw [add_block, h1]
  rwa [add_block] at h2
theorem own_blk {w : World} {base : Nat} {e : TypeId} {size n c m : Nat} {A : Option Addr} {xs : List Value} (h : w.ownsRow base e size (.slice A n c) m xs) : ∀ ad, A = some ad → base ≤ ad.block ∧ ad.block < w.heap.size := by
  rintro ad rfl
  rcases h.2 with ⟨h0, _⟩ | ⟨g, cap, cur, hv, hb, hg, _⟩
  · injection h0 with h0; cases h0
  · injection hv with hv
    injection hv with hv
    subst hv
    exact ⟨hb, (Array.getElem?_eq_some_iff.1 hg).1⟩
theorem Bk.row {w : World} {g : Nat} {t : TypeId} {cs : List Value} (h : Bk w g t cs) (cs' : List Value) : Bk (w.setRow g cs'.toArray) g t cs' := setRow_heap w g cs.toArray _ _ _ h
theorem Bk.rowFar {w : World} {g k : Nat} {t : TypeId} {cs : List Value} (h : Bk w k t cs) (hne : k ≠ g) (cur : Array Value) : Bk (w.setRow g cur) k t cs := (setRow_other w g k _ hne).trans h
theorem setRow_size (w : World) (g : Nat) (cur : Array Value) : (w.setRow g cur).heap.size = w.heap.size := by unfold World.setRow; simp
theorem Rd.rowFar {w : World} {A : Option Addr} {xs : List Value} (h : Rd w w.heap.size A xs) {g : Nat} (hne : ∀ ad, A = some ad → ad.block ≠ g) (cur : Array Value) : Rd (w.setRow g cur) (w.setRow g cur).heap.size A xs := fun hn => by
  obtain ⟨ad, e, hb, hc⟩ := h hn
  refine ⟨ad, e, by rw [setRow_size]; exact hb, fun j v hj => ?_⟩
  have h1 := setRow_other w g ad.block cur (hne ad e)
  have h2 := hc j v hj
  unfold World.cell? at h2 ⊢
  rw [add_block, h1]
  rwa [add_block] at h2
theorem results_cell_row2 {P : Program} {fn : Func} {p q : Tmp} {ty ty' : TypeId} (h : fn.results = #[.cell p ty, .cell q ty']) (tmps : Array Value) (w : World) (g g' : Nat) (t t' : TypeId) (cs cs' : List Value) (d d' : TypeDesc)
    (hp : tmps.getD p undef = .pointer (some ⟨g, 0, none⟩)) (hq : tmps.getD q undef = .pointer (some ⟨g', 0, none⟩)) (hg : Bk w g t cs) (hg' : Bk w g' t' cs')
    (hu : P.underlying ty = some d) (hd : (match d with | .struct _ | .array _ _ => true | _ => false) = true) (hi : (P.info? ty).map (·.size) = some cs.toArray.size)
    (hu' : P.underlying ty' = some d') (hd' : (match d' with | .struct _ | .array _ _ => true | _ => false) = true) (hi' : (P.info? ty').map (·.size) = some cs'.toArray.size) :
    (results fn tmps).run P w = .ok (.tuple #[.agg cs.toArray, .agg cs'.toArray]) w := by
  have hp' : tmps[p]?.getD undef = .pointer (some ⟨g, 0, none⟩) := by simpa using hp
  have hq' : tmps[q]?.getD undef = .pointer (some ⟨g', 0, none⟩) := by simpa using hq
  simp [results, h, hp', hq', asAddr, run_loadVar_row w g t ty cs.toArray (0, 0) d hg hu hd hi, run_loadVar_row w g' t' ty' cs'.toArray (0, 0) d' hg' hu' hd' hi']
/-- the row that comes back is the one that came in, or a new one -/
def Fr0 (w : World) (A A' : Option Addr) : Prop := A' = A ∨ ∀ ad, A' = some ad → w.heap.size ≤ ad.block
theorem Fr0.up {w w' : World} {A B : Option Addr} (h : Fr0 w' A B) (hs : w.heap.size ≤ w'.heap.size) : Fr0 w A B := h.imp id (fun h ad e => Nat.le_trans hs (h ad e))
def Fr1 {α : Type} (w : World) (A B : Option Addr) (l m : List α) : Prop := (B = A ∧ m = l) ∨ ∀ ad, B = some ad → w.heap.size ≤ ad.block
theorem Fr1.up {α : Type} {w w' : World} {A B : Option Addr} {l m : List α} (h : Fr1 w' A B l m) (hs : w.heap.size ≤ w'.heap.size) : Fr1 w A B l m := h.imp id (fun h ad e => Nat.le_trans hs (h ad e))
/-- it lies in a block of before, or in a new one -/
theorem Fr1.away {α : Type} {w0 W : World} {A B : Option Addr} {l m : List α} (f : List α → List Value) (ha : Rd w0 w0.heap.size A (f l)) (h : Fr1 W A B l m) : f m ≠ [] → ∀ ad, B = some ad → ad.block < w0.heap.size ∨ W.heap.size ≤ ad.block := by
  intro hne ad e
  rcases h with ⟨rfl, rfl⟩ | h
  · obtain ⟨ad', e', hb, _⟩ := ha hne
    rw [e'] at e; injection e with e; subst e
    exact .inl hb
  · exact .inr (h ad e)
theorem Rd.keepN {w : World} {B : Nat} {A : Option Addr} {xs : List Value} (h : Rd w B A xs) {p : Addr} (hne : xs ≠ [] → ∀ ad, A = some ad → ad.block ≠ p.block) (u : Value) : Rd (w.setCell p u) B A xs := fun hn => h.keep1 (hne hn) u hn
theorem Rd.rowFarN {w : World} {A : Option Addr} {xs : List Value} (h : Rd w w.heap.size A xs) {g : Nat} (hne : xs ≠ [] → ∀ ad, A = some ad → ad.block ≠ g) (cur : Array Value) : Rd (w.setRow g cur) (w.setRow g cur).heap.size A xs := fun hn => h.rowFar (hne hn) cur hn
def TyA (w : World) (T : TypeId) (A : Option Addr) : Prop := ∀ ad, A = some ad → ∃ cs fr, w.heap[ad.block]? = some (.cells cs T fr)
theorem own_ty {w : World} {base : Nat} {e : TypeId} {size n c m : Nat} {A : Option Addr} {xs : List Value} (h : w.ownsRow base e size (.slice A n c) m xs) : TyA w e A := by
  rintro ad rfl
  rcases h.2 with ⟨h0, _⟩ | ⟨g, cap, cur, hv, hb, hg, _⟩
  · injection h0 with h0; cases h0
  · injection hv with hv
    injection hv with hv
    subst hv
    exact ⟨cur, _, hg⟩
theorem TyA.step {w w' : World} {T : TypeId} {A : Option Addr} (h : TyA w T A) (hb : Below w.heap.size w w') : TyA w' T A := fun ad e => by
  obtain ⟨cs, fr, hg⟩ := h ad e
  exact ⟨cs, fr, (hb.block _ (Array.getElem?_eq_some_iff.1 hg).1).trans hg⟩
theorem TyA.rowFar {w : World} {T : TypeId} {A : Option Addr} (h : TyA w T A) {g : Nat} (hne : ∀ ad, A = some ad → ad.block ≠ g) (cur : Array Value) : TyA (w.setRow g cur) T A := fun ad e => by
  obtain ⟨cs, fr, hg⟩ := h ad e
  exact ⟨cs, fr, (setRow_other w g _ _ (hne ad e)).trans hg⟩
theorem TyA.setc {w : World} {T : TypeId} {A : Option Addr} (h : TyA w T A) (p : Addr) (v : Value) : TyA (w.setCell p v) T A := fun ad e => by
  obtain ⟨cs, fr, hg⟩ := h ad e
  by_cases hp : p.block = ad.block
  · have hlt := (Array.getElem?_eq_some_iff.1 hg).1
    simp only [World.setCell, Array.getElem?_modify, hp, if_true, hg]
    exact ⟨_, _, rfl⟩
  · simp only [World.setCell, Array.getElem?_modify, hp, if_false, hg]
    exact ⟨_, _, rfl⟩
theorem TyA.drew {w : World} {T : TypeId} {A : Option Addr} (h : TyA w T A) : TyA w.drew T A := h
theorem TyA.none (w : World) (T : TypeId) : TyA w T none := fun ad e => by cases e
theorem TyA.ne {w : World} {T T' : TypeId} {A : Option Addr} {g : Nat} {cs : List Value} (h : TyA w T A) (hk : Bk w g T' cs) (hne : T ≠ T') : ∀ ad, A = some ad → ad.block ≠ g := fun ad e h2 => by
  obtain ⟨cs', fr, hg⟩ := h ad e
  rw [h2] at hg
  have := hg.symm.trans hk
  simp at this
  exact hne this.2.1
end Go.Proofs.YtfbllioegeadfaaDoor
