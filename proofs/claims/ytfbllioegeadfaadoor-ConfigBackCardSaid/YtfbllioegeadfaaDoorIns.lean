/- Words for slices.Insert, in memory of one's own: copy of whole elements, append of another slice type, of a make. No program in sight. -/
import Derived.Test.YtfbllioegeadfaaDoorMem
import Derived.Test.YtfbllioegeadfaaDoorDel
import Derived.Shelf.Spec.SlicesInsertGrow
import Derived.Laws.CopyRow
namespace Go.Proofs.YtfbllioegeadfaaDoor
open Go.RowKit
set_option linter.unusedSimpArgs false
set_option linter.unusedVariables false

theorem run_copy_sz {P : Program} (w : World) (dT sT ty elem : TypeId) (size g o dLen dCap : Nat) (a : Addr) (sLen sCap m : Nat) (cur : Array Value) (t : TypeId) (cs : List Value)
    (hu : P.underlying dT = some (.slice elem)) (hs : (P.info? elem).map (·.size) = some size)
    (hg : w.heap[g]? = some (.cells cur t (0, 0))) (hm : Nat.min sLen dLen = m) (hn : cs.length = m * size)
    (hsrc : ∀ j v, cs[j]? = some v → w.cell? (a.add j) = some v) (hfit : o + cs.length ≤ cur.size) (h1 : ∀ v ∈ cs, v.oneCell' = true) :
    (Builtin.copy_ #[dT, sT] ty #[.slice (some ⟨g, o, none⟩) dLen dCap, .slice (some a) sLen sCap]).run P w =
      .ok (goInt m) (w.setRow g (cur.toList.take o ++ cs ++ cur.toList.drop (o + cs.length)).toArray) := by
  have hl := run_loadCells_list (P := P) w a cs hsrc
  have hst := run_storeCells_at P g o t cs 0 cur w hg (by simpa using hfit) h1
  cases hq : P.info? elem with
  | none => simp [hq] at hs
  | some i =>
    have hi : i.size = size := by simpa [hq] using hs
    simp [Builtin.copy_, run_underlying hu, Builtin.lenOf, Builtin.firstCells, sizeOf, typeInfo, hq, hi, hm, ← hn, hl, hst]
theorem run_append_ty {P : Program} (w : World) (t t' ty e e' : TypeId) (ht : P.underlying t = some (.slice e)) (ht' : P.underlying t' = some (.slice e')) (args : Array Value) :
    (Builtin.append_ #[t, t'] ty args).run P w = (Builtin.append_ #[t, t] ty args).run P w := by
  have h1 : ∀ w, (Go.underlying t').run P w = .ok (.slice e') w := fun w => run_underlying ht' w
  have h2 : ∀ w, (Go.underlying t).run P w = .ok (.slice e) w := fun w => run_underlying ht w
  unfold Builtin.append_
  simp only [List.getElem?_toArray, List.getElem?_cons_zero, List.getElem?_cons_succ]
  rcases args[0]? with _ | s
  · rfl
  · rcases args[1]? with _ | x
    · rfl
    · cases s
      case slice base n c =>
        simp only [Sem.run_bind, h1, h2, Result.andThen_ok, Sem.run_pure]
      all_goals simp only [Sem.run_bind, h1, h2, Result.andThen_ok, Sem.run_pure]
theorem setRow_grown {w : World} (g : Nat) (cur : Array Value) : w.grownBy (w.setRow g cur) (some g) :=
  ⟨rfl, rfl, rfl, by simp, fun k _ hk => setRow_other w g k _ (fun e => hk (by simp [e]))⟩
theorem setRow_below {B : Nat} {w w' : World} (h : Below B w w') {g : Nat} (hg : B ≤ g) (cur : Array Value) : Below B w (w'.setRow g cur) :=
  ⟨h.os, h.tape, h.output, Nat.le_trans h.size (setRow_grown (w := w') g cur).size, fun k hk => (setRow_other w' g k _ (by omega)).trans (h.block k hk)⟩
/-- cells of a row -/
theorem row_cells {w : World} {g : Nat} {cur : Array Value} {t : TypeId} {o : Nat} {cs : List Value} (hg : w.heap[g]? = some (.cells cur t (0, 0))) (h : cs = (cur.toList.drop o).take cs.length) : ∀ j v, cs[j]? = some v → w.cell? ((⟨g, o, none⟩ : Addr).add j) = some v := by
  intro j v hj
  have hl : j < cs.length := (List.getElem?_eq_some_iff.1 hj).1
  rw [h, List.getElem?_take, if_pos hl, List.getElem?_drop] at hj
  rw [Addr.add_lit]
  clear h
  unfold World.cell?
  rw [hg]
  simpa using hj
/-- an own row told by its block -/
theorem own_row {w : World} {base g c n size : Nat} {e : TypeId} {xs : List Value} (h : w.ownsRow base e size (.slice (some ⟨g, 0, none⟩) n c) n xs) : ∃ cur, base ≤ g ∧ w.heap[g]? = some (.cells cur e (0, 0)) ∧ n ≤ c ∧ c ≤ maxLen ∧ cur.size = c * size ∧ cur.toList.take (n * size) = xs ∧ xs.length = n * size := by
  rcases h.2 with ⟨h0, _⟩ | ⟨g', cap, cur, hv, hb, hg, hn, hm, hs, hx⟩
  · cases h0
  · cases hv; exact ⟨cur, hb, hg, hn, hm, hs, hx, h.1⟩
theorem own_of_row {w : World} {base g c n size : Nat} {e : TypeId} {row xs rest : List Value} (hg : w.heap[g]? = some (.cells row.toArray e (0, 0))) (hb : base ≤ g) (hr : row = xs ++ rest) (hx : xs.length = n * size) (hn : n ≤ c) (hc : c ≤ maxLen) (hs : row.length = c * size) :
    w.ownsRow base e size (.slice (some ⟨g, 0, none⟩) n c) n xs :=
  ⟨hx, .inr ⟨g, c, row.toArray, rfl, hb, hg, hn, hc, by simpa using hs, by
    show row.take (n * size) = xs
    rw [hr, ← hx, List.take_left' rfl]⟩⟩
/-- first the rest goes up, then the news go in -/
theorem shift_in {α : Type} (L A B C news : List α) (k : Nat) (hL : L = A ++ B ++ C) (hn : news.length = k) (hC : k ≤ C.length) :
    ((L.take (A.length + k) ++ B ++ L.drop (A.length + k + B.length)).take A.length ++ news ++ (L.take (A.length + k) ++ B ++ L.drop (A.length + k + B.length)).drop (A.length + news.length)) = A ++ news ++ B ++ C.drop k := by
  have hl : (L.take (A.length + k)).length = A.length + k := by rw [List.length_take, hL]; simp; omega
  have h1 : L.take A.length = A := by rw [hL, List.append_assoc, List.take_left' rfl]
  have h2 : L.drop (A.length + k + B.length) = C.drop k := by
    rw [hL, show A.length + k + B.length = (A ++ B).length + k by simp; omega, ← List.drop_drop, List.drop_left' rfl]
  have t1 : (L.take (A.length + k) ++ B ++ L.drop (A.length + k + B.length)).take A.length = A := by
    rw [List.append_assoc, List.take_append, hl, show A.length - (A.length + k) = 0 by omega, List.take_zero, List.append_nil, List.take_take, Nat.min_eq_left (by omega), h1]
  have t2 : (L.take (A.length + k) ++ B ++ L.drop (A.length + k + B.length)).drop (A.length + news.length) = B ++ C.drop k := by
    rw [hn, List.append_assoc, List.drop_append, hl, Nat.sub_self, List.drop_zero, List.drop_of_length_le (by omega), List.nil_append, h2]
  rw [t1, t2, List.append_assoc, List.append_assoc, List.append_assoc]
/-- first the news go in, then the rest -/
theorem fill_in {α : Type} (A Z B news : List α) (h : news.length + B.length ≤ Z.length) :
    (((A ++ Z).take A.length ++ news ++ (A ++ Z).drop (A.length + news.length)).take (A.length + news.length) ++ B ++ ((A ++ Z).take A.length ++ news ++ (A ++ Z).drop (A.length + news.length)).drop (A.length + news.length + B.length)) = A ++ news ++ B ++ Z.drop (news.length + B.length) := by
  have h1 : (A ++ Z).take A.length = A := List.take_left' rfl
  have h2 : (A ++ Z).drop (A.length + news.length) = Z.drop news.length := by rw [← List.drop_drop, List.drop_left' rfl]
  rw [h1, h2]
  have t1 : (A ++ news ++ Z.drop news.length).take (A.length + news.length) = A ++ news := List.take_left' (by simp)
  have t2 : (A ++ news ++ Z.drop news.length).drop (A.length + news.length + B.length) = Z.drop (news.length + B.length) := by
    rw [show A.length + news.length + B.length = (A ++ news).length + B.length by simp, ← List.drop_drop, List.drop_left' rfl, List.drop_drop]
  rw [t1, t2]
end Go.Proofs.YtfbllioegeadfaaDoor
