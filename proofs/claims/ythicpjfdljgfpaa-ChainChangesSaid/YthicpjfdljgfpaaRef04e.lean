/- Package callboyref04: laid, the plain steps; an append that tells its block. -/
import Derived.Test.YthicpjfdljgfpaaRef04d
import Derived.Test.YthicpjfdljgfpaaCi
import Derived.Maps.AppendAt
namespace Go.Proofs.Ythicpjfdljgfpaa
open Go.RowKit Go.Sort
set_option linter.unusedSimpArgs false
set_option linter.unusedVariables false

theorem wpList_app4 {P : Program} {w : World} {ops : Array Oper} {rest : List Oper} {o : Oper} {a : Act} {Q : Exit → Act → World → Prop} (hgd : o.guard = none) (s x : Operand) (t : TypeId)
    (ho : o.op = .call { callee := .builtin .append, args := #[s, x], argTypes := #[t, t] })
    (base : Nat) (e : TypeId) (i : TypeInfo) (z : Value) (size bytes : Nat) (ht : P.underlying t = some (.slice e)) (hi : P.info? e = some i) (hz : i.zero = some z)
    (hsize : i.size = size) (hby : i.bytes = bytes) (hzs : z.cells.size = size) (hsz : 0 < size)
    (A : Option Addr) (n c : Nat) (xs : List Value) (hs : a.eval s = .slice A n c) (hown : w.ownsRow base e size (.slice A n c) n xs)
    (ad : Addr) (m c' : Nat) (news : List Value) (hx : a.eval x = .slice (some ad) m c') (hl : news.length = m * size) (hnews : ∀ j u, news[j]? = some u → w.cell? (ad.add j) = some u) (h1 : ∀ u ∈ news, u.oneCell' = true)
    (h63 : n + m ≤ maxLen) (hbytes : (n + m) * bytes ≤ 140737488355328) (hbase : base ≤ w.heap.size) (hm : 0 < m)
    (h : ∀ g cap w', w'.ownsRow base e size (.slice (some ⟨g, 0, none⟩) (n + m) cap) (n + m) (xs ++ news) → Below base w w' → w.grownBy w' (Value.slice A n c).ownBlock → ((Value.slice A n c).ownBlock = some g ∨ g = w.heap.size) → wpList P ops Q rest (a.put o.dst (.slice (some ⟨g, 0, none⟩) (n + m) cap)) w') : wpList P ops Q (o :: rest) a w :=
  wpList_append_own_at w hgd s x t ho base e i z size bytes ht hi hz hsize hby hzs hsz (.slice A n c) n xs hs hown ad m c' news hx hl hnews h1 h63 hbytes hbase fun v' w' h2 h3 _ h5 => by
    obtain ⟨g, cap, rfl, _, _⟩ := own_some h2 (by omega)
    refine h g cap w' h2 ((Below.refl base w).grown h3 hbase (fun k hk => (hown.lt k hk).1)) h3 ?_
    simp only [Value.ownBlock, Option.some.injEq] at h5 ⊢
    rcases h5 with h5 | h5
    · exact .inl h5.symm
    · exact .inr h5
theorem ndOf_nil (A : List (List Nat)) (p : Nat) : ndOf (A ++ [[]]) p = ndOf A p := by
  unfold ndOf
  by_cases h : ∃ m ∈ A, p ∈ m
  · rw [ndGo_pre h]
  · have h' : ∀ m ∈ A, p ∉ m := fun m hm hq => h ⟨m, hm, hq⟩
    rw [ndGo_skip h', ndGo_none h']; rfl
theorem laid_nil_ns (n : Nat) (A : List (List Nat)) : (laid n (A ++ [[]])).ns = (laid n A).ns := by
  unfold laid
  dsimp only
  apply List.map_congr_left
  intro p _
  exact ndOf_nil A p
theorem take_split {L : List (List Nat)} {i : Nat} (hi : i < L.length) : L.take (i + 1) = L.take i ++ [L[i]] := List.take_succ_eq_append_getElem hi
theorem vl_take {n : Nat} {L : List (List Nat)} (hv : Vl n L) {i k : Nat} (hi : i < L.length) : Vl n (L.take i ++ [L[i].take k]) := by
  have hs : (L.take i ++ [L[i].take k]).flatten.Sublist L.flatten := by
    conv => rhs; rw [at_split hi]
    simp only [List.flatten_append, List.flatten_cons, List.flatten_nil, List.append_nil]
    exact (List.Sublist.refl _).append ((List.take_sublist k _).trans (List.sublist_append_left _ _))
  refine ⟨fun l hl p hp => ?_, hs.nodup hv.2⟩
  have h1 : p ∈ (L.take i ++ [L[i].take k]).flatten := List.mem_flatten.2 ⟨l, hl, hp⟩
  obtain ⟨m, hm, hp2⟩ := List.mem_flatten.1 (hs.subset h1)
  exact hv.1 m hm p hp2
/-- one place more -/
theorem laid_step {n : Nat} {L : List (List Nat)} (hv : Vl n L) {i k : Nat} (hi : i < L.length) (hk : k < L[i].length) :
    L[i][k] < n ∧ -1 ≤ lst (L[i].take k) ∧ lst (L[i].take k) ≤ (n : Int) - 1 ∧
    upd3 ((laid n (L.take i ++ [L[i].take k])).ns.set L[i][k] ⟨i, -1, lst (L[i].take k)⟩) (lst (L[i].take k)) (fun x => { x with n := L[i][k] }) = (laid n (L.take i ++ [L[i].take (k + 1)])).ns := by
  have h1 : L[i][k] < n := hv.1 _ (List.getElem_mem hi) _ (List.getElem_mem hk)
  have hb := lst_bd (l := L[i].take k) (n := n) (fun x hx => hv.1 _ (List.getElem_mem hi) _ (List.mem_of_mem_take hx))
  refine ⟨h1, hb.1, hb.2, ?_⟩
  have hv2 := vl_take hv hi (k := k + 1)
  rw [List.take_succ_eq_append_getElem hk] at hv2
  have hn : L[i][k] ∉ (L.take i ++ [L[i].take k]).flatten := by
    have h3 := hv2.2
    simp only [List.flatten_append, List.flatten_cons, List.flatten_nil, List.append_nil] at h3 ⊢
    rw [← List.append_assoc] at h3
    intro h
    exact (List.nodup_append.1 h3).2.2 _ h _ (by simp) rfl
  have h4 := laid_put (n := n) (A := L.take i) (B := []) (l := L[i].take k) (a := L[i][k]) (vl_take hv hi) hn h1
  rw [List.take_succ_eq_append_getElem hk, ← h4]
  have ht : (laid n (L.take i ++ [L[i].take k])).ts.getD (L.take i).length (-1) = lst (L[i].take k) := by simp [laid]
  show _ = upd3 _ _ _
  rw [ht, take_len hi]
/-- lists as rows of rows -/
def Lss (w : World) (A : Option Addr) (L : List (List Nat)) : Prop := ∃ vs : List Value, vs.length = L.length ∧ Rd w w.heap.size A vs ∧ ∀ i (h : i < L.length), ∃ Ai ci, vs[i]? = some (.slice Ai L[i].length ci) ∧ Rd w w.heap.size Ai (ints (nI L[i]))
theorem Lss.step {w w' : World} {A : Option Addr} {L : List (List Nat)} (h : Lss w A L) (hb : Below w.heap.size w w') : Lss w' A L := by
  obtain ⟨vs, e, r, f⟩ := h
  refine ⟨vs, e, r.step hb, fun i hi => ?_⟩
  obtain ⟨Ai, ci, e2, r2⟩ := f i hi
  exact ⟨Ai, ci, e2, r2.step hb⟩
end Go.Proofs.Ythicpjfdljgfpaa
