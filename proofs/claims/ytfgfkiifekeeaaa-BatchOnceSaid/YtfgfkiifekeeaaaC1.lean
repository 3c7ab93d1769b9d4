import Derived.Test.YtfgfkiifekeeaaaMem
import Derived.Deep.DeepAppendRoom
import Derived.Deep.RegionLaw
import Derived.Shelf.Spec.SlicesInsertGrow
import Derived.Laws.CopyRow
import Derived.Test.YtfgfkiifekeeaaaC0
import Derived.Deep.Upon
/- Words for slices.Delete, in memory of one's own: clear of the rest of a row of whole elements; a row that is cut. No program in sight. -/
namespace Go.Proofs.Ytfgfkiifekeeaaa
open Go.RowKit
set_option linter.unusedSimpArgs false
set_option linter.unusedVariables false

theorem zero_run {P : Program} {e : TypeId} {i : TypeInfo} {z : Value} (hi : P.info? e = some i) (hz : i.zero = some z) (w : World) : (zeroValue e).run P w = .ok z w := by
  simp [zeroValue, typeInfo, hi, hz]
theorem zeroCells_one {z : Array Value} {n : Nat} (h1 : ∀ u ∈ z.toList, u.oneCell' = true) : ∀ u ∈ (Builtin.zeroCells z n).toList, u.oneCell' = true := by
  intro u hu
  simp only [Builtin.zeroCells, Array.toList_map, List.mem_map, Array.toList_range, List.mem_range] at hu
  obtain ⟨k, hk, rfl⟩ := hu
  have hs : 0 < z.size := by
    rcases Nat.eq_zero_or_pos z.size with h | h
    · simp [h] at hk
    · exact h
  have := Nat.mod_lt k hs
  rw [getElem!_pos z _ this]
  exact h1 _ (by simp)
/-- a row's first elements alone -/
theorem own_take {w : World} {base : Nat} {e : TypeId} {size g n c k : Nat} {xs : List Value} (h : w.ownsRow base e size (.slice (some ⟨g, 0, none⟩) n c) n xs) (hk : k ≤ n) :
    w.ownsRow base e size (.slice (some ⟨g, 0, none⟩) k c) k (xs.take (k * size)) := by
  have hks : k * size ≤ n * size := Nat.mul_le_mul_right _ hk
  rcases h.2 with ⟨h0, _⟩ | ⟨g', cap, cur, hv, hb, hg, hn, hm, hs, hx⟩
  · cases h0
  · cases hv
    refine ⟨by rw [List.length_take, h.1]; omega, .inr ⟨g, c, cur, rfl, hb, hg, by omega, hm, hs, ?_⟩⟩
    rw [← hx, List.take_take]
    congr 1
    omega
/-- 'clear' of what lies behind a row, in its block -/
theorem own_clear {P : Program} {w : World} {base : Nat} {t e : TypeId} {i : TypeInfo} {z : Value} {size g n c k c' : Nat} {xs : List Value} (ht : P.underlying t = some (.slice e)) (hi : P.info? e = some i) (hz : i.zero = some z)
    (hzs : z.cells.size = size) (hz1 : ∀ u ∈ z.cells.toList, u.oneCell' = true) (h : w.ownsRow base e size (.slice (some ⟨g, 0, none⟩) n c) n xs) (hk : n + (k + 1) ≤ c) :
    ∃ w', (∀ ty, (Builtin.clear_ #[t] ty #[.slice (some ⟨g, n * size, none⟩) (k + 1) c']).run P w = .ok (.tuple #[]) w') ∧ w'.ownsRow base e size (.slice (some ⟨g, 0, none⟩) n c) n xs ∧ w.grownBy w' (some g) := by
  rcases h.2 with ⟨h0, _⟩ | ⟨g', cap, cur, hv, hb, hg, hn, hm, hs, hx⟩
  · cases h0
  · cases hv
    have hsz : (Builtin.zeroCells z.cells (k + 1)).toList.length = (k + 1) * size := by rw [Array.length_toList, size_zeroCells, hzs]
    have hfit : n * size + (k + 1) * size ≤ cur.size := by rw [hs, ← Nat.add_mul]; exact Nat.mul_le_mul_right _ hk
    have hst := run_storeCells_at P g (n * size) e (Builtin.zeroCells z.cells (k + 1)).toList 0 cur w hg (by rw [hsz]; omega) (zeroCells_one hz1)
    refine ⟨_, fun ty => by simp [Builtin.clear_, run_underlying ht, zero_run hi hz, hst]; rfl, ⟨h.1, .inr ⟨g, c, _, rfl, hb, setRow_heap w g cur _ e _ hg, hn, hm, ?_, ?_⟩⟩, ⟨rfl, rfl, rfl, by simp, fun k _ hk => setRow_other w g k _ (fun e => hk (by simp [e]))⟩⟩
    · simp only [List.size_toArray, List.length_append, hsz, List.length_take, List.length_drop, Array.length_toList, Nat.add_zero, show (Builtin.zeroCells z.cells (k + 1)).size = (k + 1) * size by rw [size_zeroCells, hzs]]
      rw [← hs]
      omega
    · simp only [Nat.add_zero, List.append_assoc]
      rw [List.take_left' (by simp; omega), hx]
/-- append where there is room, to a row of one's own, as one step of a region that draws -/
theorem step_app_own {P : Program} {ops : Array Oper} {o : Oper} {a : Act} {w : World} {K : Act → World → Prop} {Q : Exit → Act → World → Prop} {E : Prop}
    (hgd : o.guard = none) (s x : Operand) (t : TypeId) (hop : o.op = Op.call { callee := Callee.builtin Builtin.append, args := #[s, x], argTypes := #[t, t] })
    (base : Nat) (e : TypeId) (i : TypeInfo) (size : Nat) (ht : P.underlying t = some (.slice e)) (hi : P.info? e = some i) (hsize : i.size = size)
    (g n cap : Nat) (xs : List Value) (hs : a.eval s = .slice (some ⟨g, 0, none⟩) n cap) (hown : w.ownsRow base e size (.slice (some ⟨g, 0, none⟩) n cap) n xs)
    (ad : Addr) (m c : Nat) (news : List Value) (hx : a.eval x = .slice (some ad) m c) (hl : news.length = m * size) (hnews : ∀ j u, news[j]? = some u → w.cell? (ad.add j) = some u) (h1 : ∀ u ∈ news, u.oneCell' = true)
    (hroom : n + m ≤ cap)
    (hK : ∀ w', w'.ownsRow base e size (.slice (some ⟨g, 0, none⟩) (n + m) cap) (n + m) (xs ++ news) → w.grownBy w' (some g) → K (a.put o.dst (.slice (some ⟨g, 0, none⟩) (n + m) cap)) w') :
    if Region.wanted o (yielded ops a.tmps) = true then Oper.wp P o a w K Q else E := by
  have hw : Region.wanted o (yielded ops a.tmps) = true := by simp [Region.wanted, hgd]
  rw [if_pos hw]
  obtain ⟨w', hr, h2, h3⟩ := run_append_own_spare (P := P) w base t o.type e i size ht hi hsize g n cap xs hown ad m c news hl hnews h1 hroom
  unfold Oper.wp execOp
  simp only [hop, resolve, invoke, builtin, Sem.run_bind, Sem.run_pure, Result.andThen_ok, List.map_toArray, List.map_cons, List.map_nil, hs, hx, hr]
  exact hK w' h2 h3
end Go.Proofs.Ytfgfkiifekeeaaa

/- Words for slices.Insert, in memory of one's own: copy of whole elements, append of another slice type, of a make. No program in sight. -/
namespace Go.Proofs.Ytfgfkiifekeeaaa
open Go.RowKit
set_option linter.unusedSimpArgs false
set_option linter.unusedVariables false

theorem run_copy_sz {P : Program} (w : World) (dT sT ty elem : TypeId) (size g o dLen dCap : Nat) (a : Addr) (sLen sCap m : Nat) (cur : Array Value) (t : TypeId) (cs : List Value)
    (hu : P.underlying dT = some (.slice elem)) (hs : (P.info? elem).map (·.size) = some size)
    (hg : w.heap[g]? = some (.cells cur t (0, 0))) (hm : Nat.min sLen dLen = m) (hn : cs.length = m * size)
    (hsrc : ∀ j v, cs[j]? = some v → w.cell? (a.add j) = some v) (hfit : o + cs.length ≤ cur.size) (h1 : ∀ v ∈ cs, v.oneCell' = true) :
    (Builtin.copy_ #[dT, sT] ty #[.slice (some ⟨g, o, none⟩) dLen dCap, .slice (some a) sLen sCap]).run P w =
      .ok (goInt m) (w.setRow g (cur.toList.take o ++ cs ++ cur.toList.drop (o + cs.length)).toArray) := by
  have hl := run_loadCells_list (P := P) w a cs hsrc
  have hst := run_storeCells_at P g o t cs 0 cur w hg (by simpa using hfit) h1
  cases hq : P.info? elem with
  | none => simp [hq] at hs
  | some i =>
    have hi : i.size = size := by simpa [hq] using hs
    simp [Builtin.copy_, run_underlying hu, Builtin.lenOf, Builtin.firstCells, sizeOf, typeInfo, hq, hi, hm, ← hn, hl, hst]
theorem run_append_ty {P : Program} (w : World) (t t' ty e e' : TypeId) (ht : P.underlying t = some (.slice e)) (ht' : P.underlying t' = some (.slice e')) (args : Array Value) :
    (Builtin.append_ #[t, t'] ty args).run P w = (Builtin.append_ #[t, t] ty args).run P w := by
  have h1 : ∀ w, (Go.underlying t').run P w = .ok (.slice e') w := fun w => run_underlying ht' w
  have h2 : ∀ w, (Go.underlying t).run P w = .ok (.slice e) w := fun w => run_underlying ht w
  unfold Builtin.append_
  simp only [List.getElem?_toArray, List.getElem?_cons_zero, List.getElem?_cons_succ]
  rcases args[0]? with _ | s
  · rfl
  · rcases args[1]? with _ | x
    · rfl
    · cases s
      case slice base n c =>
        simp only [Sem.run_bind, h1, h2, Result.andThen_ok, Sem.run_pure]
      all_goals simp only [Sem.run_bind, h1, h2, Result.andThen_ok, Sem.run_pure]
theorem setRow_grown {w : World} (g : Nat) (cur : Array Value) : w.grownBy (w.setRow g cur) (some g) :=
  ⟨rfl, rfl, rfl, by simp, fun k _ hk => setRow_other w g k _ (fun e => hk (by simp [e]))⟩
theorem setRow_below {B : Nat} {w w' : World} (h : Below B w w') {g : Nat} (hg : B ≤ g) (cur : Array Value) : Below B w (w'.setRow g cur) :=
  ⟨h.os, h.tape, h.output, Nat.le_trans h.size (setRow_grown (w := w') g cur).size, fun k hk => (setRow_other w' g k _ (by omega)).trans (h.block k hk)⟩
/-- cells of a row -/
theorem row_cells {w : World} {g : Nat} {cur : Array Value} {t : TypeId} {o : Nat} {cs : List Value} (hg : w.heap[g]? = some (.cells cur t (0, 0))) (h : cs = (cur.toList.drop o).take cs.length) : ∀ j v, cs[j]? = some v → w.cell? ((⟨g, o, none⟩ : Addr).add j) = some v := by
  intro j v hj
  have hl : j < cs.length := (List.getElem?_eq_some_iff.1 hj).1
  rw [h, List.getElem?_take, if_pos hl, List.getElem?_drop] at hj
  rw [Addr.add_lit]
  clear h
  unfold World.cell?
  rw [hg]
  simpa using hj
/-- an own row told by its block -/
theorem own_row {w : World} {base g c n size : Nat} {e : TypeId} {xs : List Value} (h : w.ownsRow base e size (.slice (some ⟨g, 0, none⟩) n c) n xs) : ∃ cur, base ≤ g ∧ w.heap[g]? = some (.cells cur e (0, 0)) ∧ n ≤ c ∧ c ≤ maxLen ∧ cur.size = c * size ∧ cur.toList.take (n * size) = xs ∧ xs.length = n * size := by
  rcases h.2 with ⟨h0, _⟩ | ⟨g', cap, cur, hv, hb, hg, hn, hm, hs, hx⟩
  · cases h0
  · cases hv; exact ⟨cur, hb, hg, hn, hm, hs, hx, h.1⟩
theorem own_of_row {w : World} {base g c n size : Nat} {e : TypeId} {row xs rest : List Value} (hg : w.heap[g]? = some (.cells row.toArray e (0, 0))) (hb : base ≤ g) (hr : row = xs ++ rest) (hx : xs.length = n * size) (hn : n ≤ c) (hc : c ≤ maxLen) (hs : row.length = c * size) :
    w.ownsRow base e size (.slice (some ⟨g, 0, none⟩) n c) n xs :=
  ⟨hx, .inr ⟨g, c, row.toArray, rfl, hb, hg, hn, hc, by simpa using hs, by
    show row.take (n * size) = xs
    rw [hr, ← hx, List.take_left' rfl]⟩⟩
/-- first the rest goes up, then the news go in -/
theorem shift_in {α : Type} (L A B C news : List α) (k : Nat) (hL : L = A ++ B ++ C) (hn : news.length = k) (hC : k ≤ C.length) :
    ((L.take (A.length + k) ++ B ++ L.drop (A.length + k + B.length)).take A.length ++ news ++ (L.take (A.length + k) ++ B ++ L.drop (A.length + k + B.length)).drop (A.length + news.length)) = A ++ news ++ B ++ C.drop k := by
  have hl : (L.take (A.length + k)).length = A.length + k := by rw [List.length_take, hL]; simp; omega
  have h1 : L.take A.length = A := by rw [hL, List.append_assoc, List.take_left' rfl]
  have h2 : L.drop (A.length + k + B.length) = C.drop k := by
    rw [hL, show A.length + k + B.length = (A ++ B).length + k by simp; omega, ← List.drop_drop, List.drop_left' rfl]
  have t1 : (L.take (A.length + k) ++ B ++ L.drop (A.length + k + B.length)).take A.length = A := by
    rw [List.append_assoc, List.take_append, hl, show A.length - (A.length + k) = 0 by omega, List.take_zero, List.append_nil, List.take_take, Nat.min_eq_left (by omega), h1]
  have t2 : (L.take (A.length + k) ++ B ++ L.drop (A.length + k + B.length)).drop (A.length + news.length) = B ++ C.drop k := by
    rw [hn, List.append_assoc, List.drop_append, hl, Nat.sub_self, List.drop_zero, List.drop_of_length_le (by omega), List.nil_append, h2]
  rw [t1, t2, List.append_assoc, List.append_assoc, List.append_assoc]
/-- first the news go in, then the rest -/
theorem fill_in {α : Type} (A Z B news : List α) (h : news.length + B.length ≤ Z.length) :
    (((A ++ Z).take A.length ++ news ++ (A ++ Z).drop (A.length + news.length)).take (A.length + news.length) ++ B ++ ((A ++ Z).take A.length ++ news ++ (A ++ Z).drop (A.length + news.length)).drop (A.length + news.length + B.length)) = A ++ news ++ B ++ Z.drop (news.length + B.length) := by
  have h1 : (A ++ Z).take A.length = A := List.take_left' rfl
  have h2 : (A ++ Z).drop (A.length + news.length) = Z.drop news.length := by rw [← List.drop_drop, List.drop_left' rfl]
  rw [h1, h2]
  have t1 : (A ++ news ++ Z.drop news.length).take (A.length + news.length) = A ++ news := List.take_left' (by simp)
  have t2 : (A ++ news ++ Z.drop news.length).drop (A.length + news.length + B.length) = Z.drop (news.length + B.length) := by
    rw [show A.length + news.length + B.length = (A ++ news).length + B.length by simp, ← List.drop_drop, List.drop_left' rfl, List.drop_drop]
  rw [t1, t2]
end Go.Proofs.Ytfgfkiifekeeaaa

/- Rows that are read, kept over stores and appends elsewhere; whole structs laid into a block. No program in sight. -/
namespace Go.Proofs.Ytfgfkiifekeeaaa
open Go.RowKit Go.Sort
set_option linter.unusedSimpArgs false
set_option linter.unusedVariables false

theorem Rd.keep1 {w : World} {B : Nat} {A : Option Addr} {xs : List Value} (h : Rd w B A xs) {p : Addr} (hne : ∀ ad, A = some ad → ad.block ≠ p.block) (u : Value) : Rd (w.setCell p u) B A xs := fun hn => by
  obtain ⟨ad, e, hb, hc⟩ := h hn
  have := hne ad e
  exact ⟨ad, e, hb, fun j v hv => (World.cell?_setCell_other _ _ _ _ (by intro e2; have := congrArg Addr.block e2; rw [add_block] at this; omega)).trans (hc j v hv)⟩
theorem Rd.kept {w w' : World} {A : Option Addr} {xs : List Value} {row : Option Nat} (h : Rd w w.heap.size A xs) (hg : w.grownBy w' row) (hne : ∀ ad, A = some ad → row ≠ some ad.block) : Rd w' w'.heap.size A xs := fun hn => by
  obtain ⟨ad, e, hb, hc⟩ := h hn
  refine ⟨ad, e, Nat.lt_of_lt_of_le hb hg.size, fun j v hj => ?_⟩
  have h1 := hg.block ad.block hb (fun e2 => hne ad e (by rw [← e2]))
  have h2 := hc j v hj
  unfold World.cell? at h2 ⊢
  rw [add_block, h1]
  rwa [add_block] at h2
theorem own_blk {w : World} {base : Nat} {e : TypeId} {size n c m : Nat} {A : Option Addr} {xs : List Value} (h : w.ownsRow base e size (.slice A n c) m xs) : ∀ ad, A = some ad → base ≤ ad.block ∧ ad.block < w.heap.size := by
  rintro ad rfl
  rcases h.2 with ⟨h0, _⟩ | ⟨g, cap, cur, hv, hb, hg, _⟩
  · injection h0 with h0; cases h0
  · injection hv with hv
    injection hv with hv
    subst hv
    exact ⟨hb, (Array.getElem?_eq_some_iff.1 hg).1⟩
theorem Bk.row {w : World} {g : Nat} {t : TypeId} {cs : List Value} (h : Bk w g t cs) (cs' : List Value) : Bk (w.setRow g cs'.toArray) g t cs' := setRow_heap w g cs.toArray _ _ _ h
theorem Bk.rowFar {w : World} {g k : Nat} {t : TypeId} {cs : List Value} (h : Bk w k t cs) (hne : k ≠ g) (cur : Array Value) : Bk (w.setRow g cur) k t cs := (setRow_other w g k _ hne).trans h
theorem setRow_size (w : World) (g : Nat) (cur : Array Value) : (w.setRow g cur).heap.size = w.heap.size := by unfold World.setRow; simp
theorem Rd.rowFar {w : World} {A : Option Addr} {xs : List Value} (h : Rd w w.heap.size A xs) {g : Nat} (hne : ∀ ad, A = some ad → ad.block ≠ g) (cur : Array Value) : Rd (w.setRow g cur) (w.setRow g cur).heap.size A xs := fun hn => by
  obtain ⟨ad, e, hb, hc⟩ := h hn
  refine ⟨ad, e, by rw [setRow_size]; exact hb, fun j v hj => ?_⟩
  have h1 := setRow_other w g ad.block cur (hne ad e)
  have h2 := hc j v hj
  unfold World.cell? at h2 ⊢
  rw [add_block, h1]
  rwa [add_block] at h2
theorem results_cell_row2 {P : Program} {fn : Func} {p q : Tmp} {ty ty' : TypeId} (h : fn.results = #[.cell p ty, .cell q ty']) (tmps : Array Value) (w : World) (g g' : Nat) (t t' : TypeId) (cs cs' : List Value) (d d' : TypeDesc)
    (hp : tmps.getD p undef = .pointer (some ⟨g, 0, none⟩)) (hq : tmps.getD q undef = .pointer (some ⟨g', 0, none⟩)) (hg : Bk w g t cs) (hg' : Bk w g' t' cs')
    (hu : P.underlying ty = some d) (hd : (match d with | .struct _ | .array _ _ => true | _ => false) = true) (hi : (P.info? ty).map (·.size) = some cs.toArray.size)
    (hu' : P.underlying ty' = some d') (hd' : (match d' with | .struct _ | .array _ _ => true | _ => false) = true) (hi' : (P.info? ty').map (·.size) = some cs'.toArray.size) :
    (results fn tmps).run P w = .ok (.tuple #[.agg cs.toArray, .agg cs'.toArray]) w := by
  have hp' : tmps[p]?.getD undef = .pointer (some ⟨g, 0, none⟩) := by simpa using hp
  have hq' : tmps[q]?.getD undef = .pointer (some ⟨g', 0, none⟩) := by simpa using hq
  simp [results, h, hp', hq', asAddr, run_loadVar_row w g t ty cs.toArray (0, 0) d hg hu hd hi, run_loadVar_row w g' t' ty' cs'.toArray (0, 0) d' hg' hu' hd' hi']
/-- the row that comes back is the one that came in, or a new one -/
def Fr0 (w : World) (A A' : Option Addr) : Prop := A' = A ∨ ∀ ad, A' = some ad → w.heap.size ≤ ad.block
theorem Fr0.up {w w' : World} {A B : Option Addr} (h : Fr0 w' A B) (hs : w.heap.size ≤ w'.heap.size) : Fr0 w A B := h.imp id (fun h ad e => Nat.le_trans hs (h ad e))
def Fr1 {α : Type} (w : World) (A B : Option Addr) (l m : List α) : Prop := (B = A ∧ m = l) ∨ ∀ ad, B = some ad → w.heap.size ≤ ad.block
theorem Fr1.up {α : Type} {w w' : World} {A B : Option Addr} {l m : List α} (h : Fr1 w' A B l m) (hs : w.heap.size ≤ w'.heap.size) : Fr1 w A B l m := h.imp id (fun h ad e => Nat.le_trans hs (h ad e))
/-- it lies in a block of before, or in a new one -/
theorem Fr1.away {α : Type} {w0 W : World} {A B : Option Addr} {l m : List α} (f : List α → List Value) (ha : Rd w0 w0.heap.size A (f l)) (h : Fr1 W A B l m) : f m ≠ [] → ∀ ad, B = some ad → ad.block < w0.heap.size ∨ W.heap.size ≤ ad.block := by
  intro hne ad e
  rcases h with ⟨rfl, rfl⟩ | h
  · obtain ⟨ad', e', hb, _⟩ := ha hne
    rw [e'] at e; injection e with e; subst e
    exact .inl hb
  · exact .inr (h ad e)
theorem Rd.keepN {w : World} {B : Nat} {A : Option Addr} {xs : List Value} (h : Rd w B A xs) {p : Addr} (hne : xs ≠ [] → ∀ ad, A = some ad → ad.block ≠ p.block) (u : Value) : Rd (w.setCell p u) B A xs := fun hn => h.keep1 (hne hn) u hn
theorem Rd.rowFarN {w : World} {A : Option Addr} {xs : List Value} (h : Rd w w.heap.size A xs) {g : Nat} (hne : xs ≠ [] → ∀ ad, A = some ad → ad.block ≠ g) (cur : Array Value) : Rd (w.setRow g cur) (w.setRow g cur).heap.size A xs := fun hn => h.rowFar (hne hn) cur hn
def TyA (w : World) (T : TypeId) (A : Option Addr) : Prop := ∀ ad, A = some ad → ∃ cs fr, w.heap[ad.block]? = some (.cells cs T fr)
theorem own_ty {w : World} {base : Nat} {e : TypeId} {size n c m : Nat} {A : Option Addr} {xs : List Value} (h : w.ownsRow base e size (.slice A n c) m xs) : TyA w e A := by
  rintro ad rfl
  rcases h.2 with ⟨h0, _⟩ | ⟨g, cap, cur, hv, hb, hg, _⟩
  · injection h0 with h0; cases h0
  · injection hv with hv
    injection hv with hv
    subst hv
    exact ⟨cur, _, hg⟩
theorem TyA.step {w w' : World} {T : TypeId} {A : Option Addr} (h : TyA w T A) (hb : Below w.heap.size w w') : TyA w' T A := fun ad e => by
  obtain ⟨cs, fr, hg⟩ := h ad e
  exact ⟨cs, fr, (hb.block _ (Array.getElem?_eq_some_iff.1 hg).1).trans hg⟩
theorem TyA.rowFar {w : World} {T : TypeId} {A : Option Addr} (h : TyA w T A) {g : Nat} (hne : ∀ ad, A = some ad → ad.block ≠ g) (cur : Array Value) : TyA (w.setRow g cur) T A := fun ad e => by
  obtain ⟨cs, fr, hg⟩ := h ad e
  exact ⟨cs, fr, (setRow_other w g _ _ (hne ad e)).trans hg⟩
theorem TyA.setc {w : World} {T : TypeId} {A : Option Addr} (h : TyA w T A) (p : Addr) (v : Value) : TyA (w.setCell p v) T A := fun ad e => by
  obtain ⟨cs, fr, hg⟩ := h ad e
  by_cases hp : p.block = ad.block
  · have hlt := (Array.getElem?_eq_some_iff.1 hg).1
    simp only [World.setCell, Array.getElem?_modify, hp, if_true, hg]
    exact ⟨_, _, rfl⟩
  · simp only [World.setCell, Array.getElem?_modify, hp, if_false, hg]
    exact ⟨_, _, rfl⟩
theorem TyA.drew {w : World} {T : TypeId} {A : Option Addr} (h : TyA w T A) : TyA w.drew T A := h
theorem TyA.none (w : World) (T : TypeId) : TyA w T none := fun ad e => by cases e
theorem TyA.ne {w : World} {T T' : TypeId} {A : Option Addr} {g : Nat} {cs : List Value} (h : TyA w T A) (hk : Bk w g T' cs) (hne : T ≠ T') : ∀ ad, A = some ad → ad.block ≠ g := fun ad e h2 => by
  obtain ⟨cs', fr, hg⟩ := h ad e
  rw [h2] at hg
  have := hg.symm.trans hk
  simp at this
  exact hne this.2.1
end Go.Proofs.Ytfgfkiifekeeaaa

/- Appends to rows of one's own, of slices that may be nothing; what st[:k], st[k:] are. No program in sight. -/
namespace Go.Proofs.Ytfgfkiifekeeaaa
open Go.RowKit Go.Sort
set_option linter.unusedSimpArgs false
set_option linter.unusedVariables false

/-- append of a slice (of nothing too) to a row of one's own -/
theorem wpList_app3 {P : Program} {w : World} {ops : Array Oper} {rest : List Oper} {o : Oper} {a : Act} {Q : Exit → Act → World → Prop} (hgd : o.guard = none) (s x : Operand) (t : TypeId)
    (ho : o.op = .call { callee := .builtin .append, args := #[s, x], argTypes := #[t, t] })
    (base : Nat) (e : TypeId) (i : TypeInfo) (z : Value) (size bytes : Nat) (ht : P.underlying t = some (.slice e)) (hi : P.info? e = some i) (hz : i.zero = some z)
    (hsize : i.size = size) (hby : i.bytes = bytes) (hzs : z.cells.size = size) (hsz : 0 < size)
    (A : Option Addr) (n c : Nat) (xs : List Value) (hs : a.eval s = .slice A n c) (hown : w.ownsRow base e size (.slice A n c) n xs)
    (X : Option Addr) (m c' : Nat) (news : List Value) (B : Nat) (hx : a.eval x = .slice X m c') (hl : news.length = m * size) (hnews : Rd w B X news) (h1 : ∀ u ∈ news, u.oneCell' = true)
    (h63 : n + m ≤ maxLen) (hbytes : (n + m) * bytes ≤ 140737488355328) (hbase : base ≤ w.heap.size)
    (h : ∀ A' cap w', w'.ownsRow base e size (.slice A' (n + m) cap) (n + m) (xs ++ news) → Below base w w' → w.grownBy w' (Value.slice A n c).ownBlock → wpList P ops Q rest (a.put o.dst (.slice A' (n + m) cap)) w') : wpList P ops Q (o :: rest) a w := by
  rcases X with _ | ad
  · have hn : news = [] := Classical.byContradiction fun hne => by
      obtain ⟨ad, e, _⟩ := hnews hne
      cases e
    subst hn
    have hm : m = 0 := by
      rcases Nat.eq_zero_or_pos m with h | h
      · exact h
      · have := Nat.mul_pos h hsz; simp at hl; omega
    subst hm
    have hnc : n ≤ c := by
      rcases hown.2 with ⟨hv, hn⟩ | ⟨g, cap, cur, hv, _, _, hle, _⟩
      · omega
      · cases hv; exact hle
    have hrun := fun ty => run_append_nothing (P := P) w t t ty e i ht hi A n c hnc (.slice none 0 c') (Src.ofNil w ht c')
    refine wpList_plain hgd fun K hK => ?_
    unfold Oper.wp
    simp [execOp, ho, resolve, invoke, builtin, hs, hx, hrun, Result.andThen]
    exact hK _ _ (h A c w (by simpa using hown) (Below.refl _ _) (Gr.refl w _))
  · refine wpList_append_own w hgd s x t ho base e i z size bytes ht hi hz hsize hby hzs hsz (.slice A n c) n xs hs hown ad m c' news hx hl ?_ h1 h63 hbytes hbase fun v' w' h2 h3 _ => ?_
    · intro j u hu
      obtain ⟨ad', e, _, hc⟩ := hnews (by rintro h0; rw [h0] at hu; simp at hu)
      injection e with e; subst e
      exact hc j u hu
    · obtain ⟨A', cap, rfl⟩ := own_form h2
      exact h A' cap w' h2 ((Below.refl base w).grown h3 hbase (fun k hk => (hown.lt k hk).1)) h3
theorem from_run {P : Program} {t e : TypeId} {size : Nat} (ht : P.underlying t = some (.slice e)) (he : P.elem t = e) (hs : ∀ W, (sizeOf e).run P W = .ok size W) (ad : Addr) (k n c : Nat) (v : Int) (hv : v = k) (hk : k ≤ n) (hn : n ≤ c) :
    ∃ A2, ((A2 = some ad ∧ c = k) ∨ A2 = some (ad.add (k * size))) ∧ (∀ W, (Instr.slice t (.slice (some ad) n c) (some (.int .i64 v)) none none).run P W = .ok (.slice A2 (n - k) (c - k)) W) ∧ (∀ W, (Instr.sliceAt t (.slice (some ad) n c) (some (.int .i64 v)) none none).run P W = .ok (.slice A2 (n - k) (c - k)) W) := by
  subst hv
  have hu : P.underlying t = some (.slice (P.elem t)) := by rw [he]; exact ht
  have hb : ∃ A2, ((A2 = some ad ∧ c = k) ∨ A2 = some (ad.add (k * size))) ∧ (∀ W, (Instr.slice t (.slice (some ad) n c) (some (.int .i64 (k : Int))) none none).run P W = .ok (.slice A2 (n - k) (c - k)) W) := by
    by_cases h1 : c = k
    · refine ⟨_, .inl ⟨rfl, h1⟩, fun W => ?_⟩
      rw [run_slice_l (ht := hu) (h0 := by omega) (h1 := by omega), he, hs]
      simp [sliced, h1]
    · refine ⟨_, .inr rfl, fun W => ?_⟩
      rw [run_slice_l (ht := hu) (h0 := by omega) (h1 := by omega), he, hs]
      simp [sliced, h1]
  obtain ⟨A2, h1, h2⟩ := hb
  exact ⟨A2, h1, h2, fun W => (run_sliceAt_slice W _ _ _ _ _ hu).trans (h2 W)⟩
theorem to_run {P : Program} {t e : TypeId} {size : Nat} (ht : P.underlying t = some (.slice e)) (he : P.elem t = e) (hs : ∀ W, (sizeOf e).run P W = .ok size W) (ad : Addr) (k n c : Nat) (hk : k ≤ c) :
    (∀ W, (Instr.slice t (.slice (some ad) n c) none (some (.int .i64 (k : Int))) none).run P W = .ok (.slice (some ad) k c) W) ∧ (∀ W, (Instr.sliceAt t (.slice (some ad) n c) none (some (.int .i64 (k : Int))) none).run P W = .ok (.slice (some ad) k c) W) := by
  have hu : P.underlying t = some (.slice (P.elem t)) := by rw [he]; exact ht
  have hb : (∀ W, (Instr.slice t (.slice (some ad) n c) none (some (.int .i64 (k : Int))) none).run P W = .ok (.slice (some ad) k c) W) := fun W => by
    rw [run_slice_h (ht := hu) (h0 := by omega) (h2 := by omega), he, hs]
    by_cases h1 : c = 0 <;> simp [sliced, h1, Addr.add]
  exact ⟨hb, fun W => (run_sliceAt_slice W _ _ _ _ _ hu).trans (hb W)⟩
theorem mUpon_appnil {P : Program} {o : Oper} {a : Act} {w : World} (s x : Operand) (t : TypeId) (hop : o.op = Op.call { callee := Callee.builtin Builtin.append, args := #[s, x], argTypes := #[t, t] })
    (e : TypeId) (i : TypeInfo) (z : Value) (size bytes : Nat) (h1 : P.underlying t = some (.slice e)) (h2 : P.info? e = some i) (h3 : i.zero = some z) (h4 : i.size = size) (h5 : i.bytes = bytes) (h6 : z.cells.size = size) (h7 : 0 < size)
    (base : Nat) (hbase : base ≤ w.heap.size) (hs : a.eval s = .slice none 0 0)
    (X : Option Addr) (m c : Nat) (news : List Value) (B : Nat) (hx : a.eval x = .slice X m c) (hn : news.length = m * size) (hc : Rd w B X news) (h1c : ∀ u ∈ news, u.oneCell' = true)
    (b1 : m ≤ maxLen) (b2 : m * bytes ≤ 140737488355328) : mUpon P (OwnAtR base e size m news) w ((execOp a.eval o).run P w) := by
  have hown : w.ownsRow base e size (.slice none 0 0) 0 [] := ⟨by simp, .inl ⟨rfl, rfl⟩⟩
  rcases X with _ | ad
  · have hn0 : news = [] := Classical.byContradiction fun hne => by
      obtain ⟨ad, e, _⟩ := hc hne
      cases e
    subst hn0
    have hm : m = 0 := by
      rcases Nat.eq_zero_or_pos m with h | h
      · exact h
      · have := Nat.mul_pos h h7; simp at hn; omega
    subst hm
    have hrun := fun ty => run_append_nothing (P := P) w t t ty e i h1 h2 none 0 0 (Nat.le_refl _) (.slice none 0 c) (Src.ofNil w h1 c)
    simp only [execOp, hop, resolve, invoke, builtin, Sem.run_bind, Sem.run_pure, Result.andThen_ok, List.map_toArray, List.map_cons, List.map_nil, hs, hx, hrun]
    exact ⟨⟨_, _, rfl⟩, ⟨_, _, rfl, hown⟩, Below.refl _ _⟩
  · have hnews : ∀ j u, news[j]? = some u → w.cell? (ad.add j) = some u := by
      intro j u hu
      obtain ⟨ad', e, _, hc⟩ := hc (by rintro h0; rw [h0] at hu; simp at hu)
      injection e with e; subst e
      exact hc j u hu
    obtain ⟨v', w', hr, r1, r2, _⟩ := run_append_own (P := P) w base t o.type e i z size bytes h1 h2 h3 h4 h5 h6 h7 (.slice none 0 0) 0 [] hown ad m c news hn hnews h1c (by simpa using b1) (by simpa using b2) hbase
    rw [Nat.zero_add, List.nil_append] at r1
    obtain ⟨B', d, rfl⟩ := own_form r1
    simp only [execOp, hop, resolve, invoke, builtin, Sem.run_bind, Sem.run_pure, Result.andThen_ok, List.map_toArray, List.map_cons, List.map_nil, hs, hx, hr]
    exact ⟨⟨_, _, rfl⟩, ⟨_, _, rfl, r1⟩, (Below.refl w.heap.size w).grown r2 (Nat.le_refl _) (fun k hk => by simp [Value.ownBlock] at hk)⟩
/-- st[:k] and st[k:] of a slice that may be nil -/
theorem to_runA {P : Program} {t e : TypeId} {size : Nat} (ht : P.underlying t = some (.slice e)) (he : P.elem t = e) (hs : ∀ W, (sizeOf e).run P W = .ok size W) (A : Option Addr) (k n c : Nat) (v : Int) (hv : v = k) (hk : k ≤ c) :
    (∀ W, (Instr.slice t (.slice A n c) none (some (.int .i64 v)) none).run P W = .ok (.slice A k c) W) ∧ (∀ W, (Instr.sliceAt t (.slice A n c) none (some (.int .i64 v)) none).run P W = .ok (.slice A k c) W) := by
  subst hv
  have hu : P.underlying t = some (.slice (P.elem t)) := by rw [he]; exact ht
  have hb : (∀ W, (Instr.slice t (.slice A n c) none (some (.int .i64 (k : Int))) none).run P W = .ok (.slice A k c) W) := fun W => by
    rw [run_slice_h (ht := hu) (h0 := by omega) (h2 := by omega), he, hs]
    have hm : A.map (fun a : Addr => a.add 0) = A := by cases A <;> simp [Addr.add]
    by_cases h1 : c = 0 <;> simp [sliced, h1, hm]
  exact ⟨hb, fun W => (run_sliceAt_slice W _ _ _ _ _ hu).trans (hb W)⟩
theorem from_runA {P : Program} {t e : TypeId} {size : Nat} (ht : P.underlying t = some (.slice e)) (he : P.elem t = e) (hs : ∀ W, (sizeOf e).run P W = .ok size W) (A : Option Addr) (k n c : Nat) (v : Int) (hv : v = k) (hk : k ≤ n) (hn : n ≤ c) :
    ∃ A2, (∀ w B xs, Rd w B A xs → xs.length = n * size → Rd w B A2 (xs.drop (k * size))) ∧ (∀ W, (Instr.slice t (.slice A n c) (some (.int .i64 v)) none none).run P W = .ok (.slice A2 (n - k) (c - k)) W) ∧ (∀ W, (Instr.sliceAt t (.slice A n c) (some (.int .i64 v)) none none).run P W = .ok (.slice A2 (n - k) (c - k)) W) := by
  subst hv
  have hu : P.underlying t = some (.slice (P.elem t)) := by rw [he]; exact ht
  have hb : ∃ A2, (∀ w B xs, Rd w B A xs → xs.length = n * size → Rd w B A2 (xs.drop (k * size))) ∧ (∀ W, (Instr.slice t (.slice A n c) (some (.int .i64 (k : Int))) none none).run P W = .ok (.slice A2 (n - k) (c - k)) W) := by
    by_cases h1 : c = k
    · refine ⟨A, fun w B xs _ hl => ?_, fun W => ?_⟩
      · rw [List.drop_eq_nil_of_le (by rw [hl, show n = k by omega]; exact Nat.le_refl _)]; exact Rd.nil
      · rw [run_slice_l (ht := hu) (h0 := by omega) (h1 := by omega), he, hs]
        simp [sliced, h1]
    · refine ⟨A.map (fun a : Addr => a.add (k * size)), fun w B xs h hl => ?_, fun W => ?_⟩
      · cases A with
        | none =>
          have : xs = [] := Classical.byContradiction fun hne => by obtain ⟨ad, e, _⟩ := h hne; cases e
          rw [this, List.drop_nil]; exact Rd.nil
        | some ad => exact h.drop _
      · rw [run_slice_l (ht := hu) (h0 := by omega) (h1 := by omega), he, hs]
        simp [sliced, h1]
  obtain ⟨A2, h1, h2⟩ := hb
  exact ⟨A2, h1, h2, fun W => (run_sliceAt_slice W _ _ _ _ _ hu).trans (h2 W)⟩
theorem rd_hnews {w : World} {B : Nat} {ad : Addr} {xs : List Value} (h : Rd w B (some ad) xs) : ∀ j u, xs[j]? = some u → w.cell? (ad.add j) = some u := by
  intro j u hu
  obtain ⟨ad', e, _, hc⟩ := h (by rintro h0; rw [h0] at hu; simp at hu)
  injection e with e; subst e
  exact hc j u hu
end Go.Proofs.Ytfgfkiifekeeaaa
