/- Words for regions (Rel): an append to an empty slice that the region has made; an append that says where the row lies. No program in sight. -/
import Derived.Test.YtfbllioegeadfaaDoorRel3
import Derived.ArgAppend
import Derived.Deep.AppendLies
namespace Go.Proofs.YtfbllioegeadfaaDoor
open Go.RowKit Go.Sort
set_option linter.unusedSimpArgs false
set_option linter.unusedVariables false

theorem setRow_same {w : World} {g : Nat} {e : TypeId} (h : w.heap[g]? = some (.cells #[] e (0, 0))) : Below w.heap.size w (w.setRow g #[]) := by
  unfold World.setRow
  refine ⟨rfl, rfl, rfl, by simp, fun k hk => ?_⟩
  simp only [Array.getElem?_modify]
  split
  · rename_i hkg; subst hkg; rw [h]; simp
  · rfl
/-- a slice of the region's own: it lies from block base on -/
def OwnAtR (base : Nat) (t : TypeId) (size n : Nat) (xs : List Value) : MSp := ⟨fun v => ∃ B d, v = .slice B n d, fun v w => ∃ B d, v = .slice B n d ∧ w.ownsRow base t size (.slice B n d) n xs⟩
theorem sts_ownR (base : Nat) (t : TypeId) (size n : Nat) (xs : List Value) : ∀ v, Stays ((OwnAtR base t size n xs).S v) := fun v w w' ⟨B, d, e, h⟩ hb => ⟨B, d, e, own_below h hb (Nat.le_refl _)⟩
theorem own_ofR {base : Nat} {t : TypeId} {size n : Nat} {xs : List Value} {A : Option Addr} {c : Nat} {w : World} (h : (OwnAtR base t size n xs).S (.slice A n c) w) : w.ownsRow base t size (.slice A n c) n xs := by
  obtain ⟨B, d, e, h⟩ := h
  rw [e]; exact h
/-- an empty slice that the region has made -/
def NoRow (base : Nat) (t : TypeId) : MSp := ⟨fun v => ∃ g, v = .slice (some ⟨g, 0, none⟩) 0 0 ∧ base ≤ g, fun v w => ∃ g, v = .slice (some ⟨g, 0, none⟩) 0 0 ∧ w.heap[g]? = some (.cells #[] t (0, 0))⟩
theorem sts_noRow (base : Nat) (t : TypeId) : ∀ v, Stays ((NoRow base t).S v) := fun v w w' ⟨g, e, h⟩ hb => ⟨g, e, (hb.block g (Array.getElem?_eq_some_iff.1 h).1).trans h⟩
theorem noRow_new {base : Nat} {t : TypeId} {w w' : World} {g : Nat} (hg : g = w.heap.size) (hw : w' = w.alloc (.cells #[] t)) (hb : base ≤ w.heap.size) : (NoRow base t).p (.slice (some ⟨g, 0, none⟩) 0 0) ∧ (NoRow base t).S (.slice (some ⟨g, 0, none⟩) 0 0) w' ∧ Below w.heap.size w w' := by
  subst hg hw
  exact ⟨⟨_, rfl, hb⟩, ⟨_, rfl, heap_alloc_new w _⟩, (Below.refl _ _).alloc1 _⟩
theorem noRow_of {base g : Nat} {t : TypeId} {w : World} (h : (NoRow base t).S (.slice (some ⟨g, 0, none⟩) 0 0) w) : w.heap[g]? = some (.cells #[] t (0, 0)) := by
  obtain ⟨g', e, h⟩ := h
  injection e with e
  injection e with e
  injection e with e
  subst e
  exact h
theorem mUpon_app0 {P : Program} {o : Oper} {a : Act} {w : World} (s x : Operand) (t : TypeId) (hop : o.op = Op.call { callee := Callee.builtin Builtin.append, args := #[s, x], argTypes := #[t, t] })
    (e : TypeId) (i : TypeInfo) (z : Value) (size bytes : Nat) (h1 : P.underlying t = some (.slice e)) (h2 : P.info? e = some i) (h3 : i.zero = some z) (h4 : i.size = size) (h5 : i.bytes = bytes) (h6 : z.cells.size = size) (h7 : 0 < size)
    (g base : Nat) (hbase : base ≤ w.heap.size) (hgb : base ≤ g) (hg : w.heap[g]? = some (.cells #[] e (0, 0))) (hs : a.eval s = .slice (some ⟨g, 0, none⟩) 0 0)
    (ad : Addr) (m c : Nat) (news : List Value) (hx : a.eval x = .slice (some ad) m c) (hn : news.length = m * size) (hc : ∀ j u, news[j]? = some u → w.cell? (ad.add j) = some u) (h1c : ∀ u ∈ news, u.oneCell' = true)
    (b1 : m ≤ maxLen) (b2 : m * bytes ≤ 140737488355328) : mUpon P (OwnAtR base e size m news) w ((execOp a.eval o).run P w) := by
  by_cases hm : m = 0
  · subst hm
    obtain rfl : news = [] := List.eq_nil_of_length_eq_zero (by omega)
    have hrun := run_append_room (P := P) w t o.type e i h1 h2 g 0 0 #[] hg ad 0 c [] (by simp) (by simp) (by simp) (Nat.le_refl _) (by simp)
    simp only [execOp, hop, resolve, invoke, builtin, Sem.run_bind, Sem.run_pure, Result.andThen_ok, List.map_toArray, List.map_cons, List.map_nil, hs, hx, hrun]
    have hsr := setRow_same hg
    refine ⟨⟨_, _, rfl⟩, ⟨_, _, rfl, ⟨by simp, .inr ⟨g, 0, #[], rfl, hgb, ?_, Nat.le_refl _, Nat.zero_le _, by simp, by simp⟩⟩⟩, by simpa using hsr⟩
    have := hsr.block g (Array.getElem?_eq_some_iff.1 hg).1
    simpa using this.trans hg
  · obtain ⟨v', w', hrun, r1, r2⟩ := run_append_arg_grows (P := P) w t o.type e i z size bytes h1 h2 h3 h4 h5 h6 h7 ⟨g, 0, none⟩ 0 0 [] (by simp) (by simp) ad m c news hn hc (by omega) (by simpa using b1) (by simpa using b2)
    simp only [execOp, hop, resolve, invoke, builtin, Sem.run_bind, Sem.run_pure, Result.andThen_ok, List.map_toArray, List.map_cons, List.map_nil, hs, hx, hrun]
    simp only [Nat.zero_add, List.nil_append] at r1
    obtain ⟨B, d, rfl⟩ := own_form r1
    refine ⟨⟨_, _, rfl⟩, ⟨_, _, rfl, ?_⟩, (Below.refl w.heap.size w).grown r2 (Nat.le_refl _) (fun k hk => by cases hk)⟩
    refine ⟨r1.1, ?_⟩
    rcases r1.2 with h | ⟨g', cap, cur, hv, hb, r⟩
    · exact .inl h
    · exact .inr ⟨g', cap, cur, hv, Nat.le_trans hbase hb, r⟩
theorem wpList_lies {P : Program} {w : World} {ops : Array Oper} {rest : List Oper} {o : Oper} {a : Act} {Q : Exit → Act → World → Prop} (hgd : o.guard = none) (s x : Operand) (t : TypeId)
    (ho : o.op = .call { callee := .builtin .append, args := #[s, x], argTypes := #[t, t] })
    (base : Nat) (e : TypeId) (i : TypeInfo) (z : Value) (size bytes : Nat) (ht : P.underlying t = some (.slice e)) (hi : P.info? e = some i) (hz : i.zero = some z)
    (hsize : i.size = size) (hby : i.bytes = bytes) (hzs : z.cells.size = size) (hsz : 0 < size)
    (v : Value) (n : Nat) (xs : List Value) (hs : a.eval s = v) (hown : w.ownsRow base e size v n xs)
    (ad : Addr) (m c : Nat) (news : List Value) (hx : a.eval x = .slice (some ad) m c) (hl : news.length = m * size) (hnews : ∀ j u, news[j]? = some u → w.cell? (ad.add j) = some u) (h1 : ∀ u ∈ news, u.oneCell' = true)
    (hm : 0 < m) (h63 : n + m ≤ maxLen) (hbytes : (n + m) * bytes ≤ 140737488355328) (hbase : base ≤ w.heap.size) (H : Nat) (hH : w.heap.size = H)
    (h : ∀ g cap w', w'.ownsRow base e size (.slice (some ⟨g, 0, none⟩) (n + m) cap) (n + m) (xs ++ news) → w.grownBy w' v.ownBlock → (v.ownBlock = some g ∨ g = H) → g < w'.heap.size → wpList P ops Q rest (a.put o.dst (.slice (some ⟨g, 0, none⟩) (n + m) cap)) w') : wpList P ops Q (o :: rest) a w :=
  wpList_plain hgd fun _ hK => wp_append_lies w s x t ho base e i z size bytes ht hi hz hsize hby hzs hsz v n xs hs hown ad m c news hx hl hnews h1 hm h63 hbytes hbase H hH fun g cap w' h2 h3 h4 h5 => hK _ _ (h g cap w' h2 h3 h4 h5)
end Go.Proofs.YtfbllioegeadfaaDoor
