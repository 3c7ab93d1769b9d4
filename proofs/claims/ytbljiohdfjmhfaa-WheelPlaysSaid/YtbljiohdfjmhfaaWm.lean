/- A map from numbers to numbers, read as a list of pairs, in whatever order. No function in sight. -/
import Derived.Test.YtbljiohdfjmhfaaRows
import Derived.Test.YtbljiohdfjmhfaaKeep
import Derived.Maps.RangeWalk
import Derived.Maps.OwnSet
import Derived.Maps.Views
namespace Go.Proofs.Ytbljiohdfjmhfaa
open Go.RowKit Go.Sort Go.Maps
set_option linter.unusedSimpArgs false
set_option linter.unusedVariables false

abbrev IL := List (Int × Int)
noncomputable abbrev RI : Value → Option (DataW Unit × List MemPlace) := plainElem Try.prog 3
theorem lawI : Keyed Try.prog 3 := int_keyed Try.underlying3
theorem zeroI (w : World) : (zeroValue 3).run Try.prog w = .ok (.int .i64 0) w := by kernel_rfl
def enM (p : Int × Int) : Lit × DataW Unit := (.int .i64 p.1, .lit (.int .i64 p.2))
/-- block b is a map that has just the pairs of l (no key twice) -/
def OwM (W : World) (b : Nat) (l : IL) : Prop :=
  ∃ es, W.ownsMap Try.prog 3 RI b l.length (.map es) ∧ es.Perm (l.map enM) ∧ (l.map (·.1)).Nodup
def dropK (k : Int) (l : IL) : IL := l.filter (fun p => p.1 != k)
def lookK (k : Int) (l : IL) : Option Int := (l.find? (fun p => p.1 == k)).map (·.2)

theorem sameK (a b : Int) : (Lit.int .i64 a).sameKey (Lit.int .i64 b) = (a == b) := by
  by_cases h : a = b
  · subst h; rw [WideAt.sameKey_self (by trivial)]; simp
  · rw [sameKey_ne (by intro e; injection e with _ e; exact h e)]; simp [h]

theorem own_tight {W : World} {b n : Nat} {es : List (Lit × DataW Unit)} (h : W.ownsMap Try.prog 3 RI b n (.map es)) : W.ownsMap Try.prog 3 RI b es.length (.map es) := by
  obtain ⟨a, c, h1, h2, h3, h4⟩ := h
  refine ⟨a, c, h1, h2, ?_, h4⟩
  have := congrArg Maps.size h4
  simp only [Maps.size_eq, length_sorted] at this
  simp at this; omega
theorem OwM.lt {W : World} {b : Nat} {l : IL} (h : OwM W b l) : b < W.heap.size := by obtain ⟨es, h, _⟩ := h; exact h.lt
theorem OwM.made (w : World) : OwM (w.alloc (.map #[] 0)) w.heap.size [] := ⟨[], World.ownsMap_made w _ _ _, .refl _, by simp⟩
theorem OwM.kept {W W' : World} {b : Nat} {l : IL} {row : Option Nat} (h : OwM W b l) (hg : W.grownBy W' row) (hne : some b ≠ row) : OwM W' b l := by
  obtain ⟨es, h, hp, hn⟩ := h; exact ⟨es, h.kept hg hne, hp, hn⟩
theorem OwM.block {W W' : World} {b : Nat} {l : IL} (h : OwM W b l) (hb : W'.heap[b]? = W.heap[b]?) : OwM W' b l := by
  obtain ⟨es, ⟨a, c, h1, h2⟩, hp, hn⟩ := h
  exact ⟨es, ⟨a, c, hb.trans h1, h2⟩, hp, hn⟩
theorem OwM.step {W W' : World} {b : Nat} {l : IL} (h : OwM W b l) (hb : Below W.heap.size W W') : OwM W' b l := h.block (hb.block _ h.lt)
theorem OwM.perm {W : World} {b : Nat} {l m : IL} (h : OwM W b l) (hp : l.Perm m) : OwM W b m := by
  obtain ⟨es, h, hp', hn⟩ := h
  exact ⟨es, by rw [← hp.length_eq]; exact h, hp'.trans (hp.map _), (hp.map _).nodup_iff.1 hn⟩
theorem OwM.nodup {W : World} {b : Nat} {l : IL} (h : OwM W b l) : (l.map (·.1)).Nodup := by obtain ⟨_, _, _, h⟩ := h; exact h

theorem any_perm {α : Type} {l m : List α} (h : l.Perm m) (f : α → Bool) : l.any f = m.any f := by
  rw [Bool.eq_iff_iff]; simp only [List.any_eq_true]; exact ⟨fun ⟨x, hx, hf⟩ => ⟨x, h.mem_iff.1 hx, hf⟩, fun ⟨x, hx, hf⟩ => ⟨x, h.mem_iff.2 hx, hf⟩⟩
theorem mem_one {l : IL} (hn : (l.map (·.1)).Nodup) {a b c : Int} (h1 : (a, b) ∈ l) (h2 : (a, c) ∈ l) : b = c := by
  induction l with
  | nil => cases h1
  | cons x l ih =>
    rw [List.map_cons, List.nodup_cons] at hn
    rcases List.mem_cons.1 h1 with e | h1
    · rcases List.mem_cons.1 h2 with e2 | h2
      · rw [← e] at e2; injection e2 with _ e2; exact e2.symm
      · exact absurd (List.mem_map.2 ⟨_, h2, by rw [← e]⟩) hn.1
    · rcases List.mem_cons.1 h2 with e2 | h2
      · exact absurd (List.mem_map.2 ⟨_, h1, by rw [← e2]⟩) hn.1
      · exact ih hn.2 h1 h2
theorem lookK_mem {l : IL} (hn : (l.map (·.1)).Nodup) {k v : Int} (h : (k, v) ∈ l) : lookK k l = some v := by
  unfold lookK
  cases hf : l.find? (fun p => p.1 == k) with
  | none => exact absurd (List.find?_eq_none.1 hf _ h) (by simp)
  | some p =>
    have h1 := List.find?_some hf
    have h2 := List.mem_of_find?_eq_some hf
    simp only [beq_iff_eq] at h1
    obtain ⟨a, b⟩ := p
    simp only at h1; subst h1
    rw [mem_one hn h h2]; rfl
theorem lookK_some {l : IL} {k v : Int} (h : lookK k l = some v) : (k, v) ∈ l := by
  unfold lookK at h
  cases hf : l.find? (fun p => p.1 == k) with
  | none => rw [hf] at h; cases h
  | some p =>
    rw [hf] at h
    have h1 := List.find?_some hf
    have h2 := List.mem_of_find?_eq_some hf
    simp only [beq_iff_eq] at h1
    simp only [Option.map_some, Option.some.injEq] at h
    obtain ⟨a, b⟩ := p
    simp only at h h1; subst h; subst h1; exact h2
theorem lookK_none {l : IL} {k : Int} (h : lookK k l = none) : ∀ p ∈ l, p.1 ≠ k := by
  intro p hp e
  unfold lookK at h
  simp only [Option.map_eq_none_iff, List.find?_eq_none] at h
  exact h p hp (by simp [e])

theorem has_own {es : List (Lit × DataW Unit)} {l : IL} (hp : es.Perm (l.map enM)) (k : Int) : Maps.has (.map es) (.int .i64 k) = (lookK k l).isSome := by
  rw [Maps.has_eq, any_perm hp, List.any_map]
  unfold lookK
  rw [Option.isSome_map, Bool.eq_iff_iff, List.any_eq_true, List.find?_isSome]
  constructor
  · rintro ⟨x, hx, h⟩
    exact ⟨x, hx, by simpa [enM, sameK] using h⟩
  · rintro ⟨x, hx, h⟩
    exact ⟨x, hx, by simpa [enM, sameK] using h⟩
theorem atKey_own {es : List (Lit × DataW Unit)} {l : IL} (hp : es.Perm (l.map enM)) (hn : (l.map (·.1)).Nodup) (k : Int) (z : DataW Unit) : (DataW.map es).atKey (.int .i64 k) z = match lookK k l with | some v => .lit (.int .i64 v) | none => z := by
  cases hl : lookK k l with
  | none => exact Maps.atKey_of_not_has (by rw [has_own hp, hl]; rfl) z
  | some v =>
    have hm := lookK_some hl
    have h1 : (Lit.int .i64 k, DataW.lit (H := Unit) (.int .i64 v)) ∈ es := hp.mem_iff.2 (List.mem_map.2 ⟨_, hm, rfl⟩)
    simp only [DataW.atKey]
    cases hf : es.find? (fun p => p.1.sameKey (.int .i64 k)) with
    | none => exact absurd (List.find?_eq_none.1 hf _ h1) (by simp [sameK])
    | some p =>
      have h2 := List.find?_some hf
      have h3 := List.mem_of_find?_eq_some hf
      obtain ⟨q, hq, rfl⟩ := List.mem_map.1 (hp.mem_iff.1 h3)
      obtain ⟨a, b⟩ := q
      simp only [enM, sameK, beq_iff_eq] at h2
      subst h2
      rw [mem_one hn hm hq]; rfl

theorem nodup_dropK {l : IL} (h : (l.map (·.1)).Nodup) (k : Int) : ((dropK k l).map (·.1)).Nodup := (List.filter_sublist.map _).nodup h
theorem filter_own {es : List (Lit × DataW Unit)} {l : IL} (hp : es.Perm (l.map enM)) (k : Int) : (es.filter (ChangeMaps.notKey (.int .i64 k))).Perm ((dropK k l).map enM) := by
  refine (hp.filter _).trans ?_
  rw [List.filter_map]
  unfold dropK
  refine .of_eq (congrArg _ (List.filter_congr fun p _ => ?_))
  simp [ChangeMaps.notKey, enM, sameK, bne]
theorem OwM.put_ {W : World} {b n : Nat} {l : IL} {es : List (Lit × DataW Unit)} (hp : es.Perm (l.map enM)) (hn : (l.map (·.1)).Nodup) {k v : Int} (h : W.ownsMap Try.prog 3 RI b n ((DataW.map es).put (.int .i64 k) (.lit (.int .i64 v)))) :
    OwM W b ((k, v) :: dropK k l) := by
  rw [DataW.put_eq] at h
  have hq : (ChangeMaps.putKey (.int .i64 k) (.lit (.int .i64 v)) es).Perm (((k, v) :: dropK k l).map enM) := (WideShapes.insert_perm _ _).trans ((filter_own hp k).cons _)
  refine ⟨_, ?_, hq, ?_⟩
  · have := own_tight h
    rw [hq.length_eq, List.length_map] at this
    exact this
  · rw [List.map_cons, List.nodup_cons]
    refine ⟨fun hc => ?_, nodup_dropK hn k⟩
    obtain ⟨p, hp, e⟩ := List.mem_map.1 hc
    have := (List.mem_filter.1 hp).2
    simp [e] at this
theorem OwM.del_ {W : World} {b n : Nat} {l : IL} {es : List (Lit × DataW Unit)} (hp : es.Perm (l.map enM)) (hn : (l.map (·.1)).Nodup) {k : Int} (h : W.ownsMap Try.prog 3 RI b n ((DataW.map es).del (.int .i64 k))) :
    OwM W b (dropK k l) := by
  rw [DataW.del_eq] at h
  have hq : (ChangeMaps.delKey (.int .i64 k) es).Perm ((dropK k l).map enM) := filter_own hp k
  refine ⟨_, ?_, hq, nodup_dropK hn k⟩
  have := own_tight h
  rw [hq.length_eq, List.length_map] at this
  exact this

/-! ### at the operation -/
section
variable (w : World) {ops : Array Oper} {rest : List Oper} {o : Oper} {a : Act} {Q : Exit → Act → World → Prop}
theorem wfi {x : Int} (h : 0 ≤ x ∧ x ≤ 1099511627776) : (Lit.int .i64 x).wf = true := by
  simp [Lit.wf, IntKind.min, IntKind.max, IntKind.signed, IntKind.bits]; omega

theorem wm_put (hg : o.guard = none) (m x v : Operand) (hop : o.op = Op.mapUpdate 66 m x v) (b : Nat) (l : IL) (hm : a.eval m = .map (some b)) (hown : OwM w b l) (hl : l.length < 1000000000) (k c : Int)
    (hx : a.eval x = .int .i64 k) (hv : a.eval v = .int .i64 c) (hk : (Lit.int .i64 k).wf = true) (hc : (Lit.int .i64 c).wf = true)
    (hK : ∀ w', OwM w' b ((k, c) :: dropK k l) → w.grownBy w' (some b) → w'.heap.size = w.heap.size → wpList Try.prog ops Q rest (a.put o.dst undef) w') :
    wpList Try.prog ops Q (o :: rest) a w := by
  obtain ⟨es, h1, h2, h3⟩ := hown
  refine wpList_mapUpdate_in w hg m x v 66 hop 3 3 lawI Try.underlying66 RI b _ _ hm h1 (by unfold maxLen; omega) _ _ (.int .i64 k) hx hv (keyOf_int_mk Try.underlying3 hk) _ [] (plainElem_int Try.underlying3 hc) fun w' h ht => hK w' (OwM.put_ h2 h3 h) ht.grown ?_
  obtain ⟨_, _, _, _, _, rfl⟩ := ht
  simp [ChangeMaps.setBlock]
theorem wm_del (hg : o.guard = none) (m x : Operand) (hop : o.op = Op.call { callee := Callee.builtin Builtin.delete, args := #[m, x], argTypes := #[66, 3] }) (b : Nat) (l : IL) (hm : a.eval m = .map (some b)) (hown : OwM w b l) (k : Int)
    (hx : a.eval x = .int .i64 k) (hk : (Lit.int .i64 k).wf = true)
    (hK : ∀ w', OwM w' b (dropK k l) → w.grownBy w' (some b) → w'.heap.size = w.heap.size → wpList Try.prog ops Q rest (a.put o.dst (.tuple #[])) w') :
    wpList Try.prog ops Q (o :: rest) a w := by
  obtain ⟨es, h1, h2, h3⟩ := hown
  refine wpList_delete_own w hg m x 66 3 hop 3 lawI Try.underlying66 RI b _ _ hm h1 _ (.int .i64 k) hx (keyOf_int_mk Try.underlying3 hk) fun w' h ht => hK w' (OwM.del_ h2 h3 h) ht.grown ?_
  obtain ⟨_, _, _, _, _, rfl⟩ := ht
  simp [ChangeMaps.setBlock]
theorem wm_ok (hg : o.guard = none) (m x : Operand) (hop : o.op = Op.lookup 66 m x true) (b : Nat) (l : IL) (hm : a.eval m = .map (some b)) (hown : OwM w b l) (k : Int)
    (hx : a.eval x = .int .i64 k) (hk : (Lit.int .i64 k).wf = true)
    (hK : wpList Try.prog ops Q rest (a.put o.dst (.tuple #[.int .i64 ((lookK k l).getD 0), .bool (lookK k l).isSome])) w) :
    wpList Try.prog ops Q (o :: rest) a w := by
  obtain ⟨es, h1, h2, h3⟩ := hown
  refine wpList_lookup_own_ok_int w hg m x 66 hop 3 3 .i64 lawI Try.underlying66 Try.underlying3 (zeroI _) b _ _ hm h1 _ (.int .i64 k) hx (keyOf_int_mk Try.underlying3 hk) fun c hc _ => ?_
  rw [atKey_own h2 h3] at hc
  rw [has_own h2]
  cases hl : lookK k l with
  | none => rw [hl] at hc hK; simp only at hc; injection hc with hc; injection hc with _ hc; subst hc; exact hK
  | some v => rw [hl] at hc hK; simp only at hc; injection hc with hc; injection hc with _ hc; subst hc; exact hK
theorem wm_look (hg : o.guard = none) (m x : Operand) (hop : o.op = Op.lookup 66 m x false) (b : Nat) (l : IL) (hm : a.eval m = .map (some b)) (hown : OwM w b l) (k : Int)
    (hx : a.eval x = .int .i64 k) (hk : (Lit.int .i64 k).wf = true)
    (hK : wpList Try.prog ops Q rest (a.put o.dst (.int .i64 ((lookK k l).getD 0))) w) :
    wpList Try.prog ops Q (o :: rest) a w := by
  obtain ⟨es, h1, h2, h3⟩ := hown
  refine wpList_lookup_own_int w hg m x 66 hop 3 3 .i64 lawI Try.underlying66 Try.underlying3 (zeroI _) b _ _ hm h1 _ (.int .i64 k) hx (keyOf_int_mk Try.underlying3 hk) fun c hc _ => ?_
  rw [atKey_own h2 h3] at hc
  cases hl : lookK k l with
  | none => rw [hl] at hc hK; simp only at hc; injection hc with hc; injection hc with _ hc; subst hc; exact hK
  | some v => rw [hl] at hc hK; simp only at hc; injection hc with hc; injection hc with _ hc; subst hc; exact hK
theorem wm_len (hg : o.guard = none) (m : Operand) (hop : o.op = Op.call { callee := Callee.builtin Builtin.len, args := #[m], argTypes := #[66] }) (b : Nat) (l : IL) (hm : a.eval m = .map (some b)) (hown : OwM w b l)
    (hK : wpList Try.prog ops Q rest (a.put o.dst (.int .i64 l.length)) w) :
    wpList Try.prog ops Q (o :: rest) a w := by
  obtain ⟨es, h1, h2, h3⟩ := hown
  refine wpList_len_own w hg m 66 hop 3 3 Try.underlying66 RI b _ _ hm h1 ?_
  rw [Maps.size_eq, h2.length_eq, List.length_map]
  exact hK

/-- 'for k, v := range m' under way: the pairs of todo are still to come -/
def RgM (W : World) (b r : Nat) (l todo : IL) : Prop :=
  ∃ es left cnt, W.ranges Try.prog 3 RI b r l.length (.map es) left cnt ∧ es.Perm (l.map enM) ∧ (l.map (·.1)).Nodup ∧ (∀ k : Int, left (.int .i64 k) = (lookK k todo).isSome) ∧ ∃ done, (done ++ todo).Perm l
theorem RgM.owm {W : World} {b r : Nat} {l todo : IL} (h : RgM W b r l todo) : OwM W b l := by
  obtain ⟨es, left, cnt, h1, h2, h3, _⟩ := h; exact ⟨es, h1.owns, h2, h3⟩
theorem RgM.kept {W W' : World} {b r : Nat} {l todo : IL} {row : Option Nat} (h : RgM W b r l todo) (hg : W.grownBy W' row) (h1 : some b ≠ row) (h2 : some r ≠ row) : RgM W' b r l todo := by
  obtain ⟨es, left, cnt, h, hr⟩ := h; exact ⟨es, left, cnt, h.kept hg h1 h2, hr⟩
theorem wm_range (hg : o.guard = none) (m : Operand) (hop : o.op = Op.range 66 m) (b : Nat) (l : IL) (hm : a.eval m = .map (some b)) (hown : OwM w b l)
    (hK : ∀ w', RgM w' b w.heap.size l l → w.grownBy w' none → w'.heap.size = w.heap.size + 1 → wpList Try.prog ops Q rest (a.put o.dst (.pointer (some ⟨w.heap.size, 0, none⟩))) w') :
    wpList Try.prog ops Q (o :: rest) a w := by
  obtain ⟨es, h1, h2, h3⟩ := hown
  exact wpList_range_own w hg m 66 hop 3 3 lawI Try.underlying66 RI b _ _ hm h1 fun w' h hgr hs => hK w' ⟨es, _, _, h, h2, h3, fun k => has_own h2 k, [], .refl _⟩ hgr hs
theorem wm_next (hg : o.guard = none) (it : Operand) (hop : o.op = Op.next it false) (b r : Nat) (l todo : IL) (hit : a.eval it = .pointer (some ⟨r, 0, none⟩)) (h : RgM w b r l todo)
    (hDone : todo = [] → wpList Try.prog ops Q rest (a.put o.dst (.tuple #[.bool false])) w)
    (hMore : ∀ (x c : Int) (w' : World), (Lit.int .i64 x).wf = true → (Lit.int .i64 c).wf = true → (x, c) ∈ todo → RgM w' b r l (todo.erase (x, c)) → w'.rangeLeft b r < w.rangeLeft b r →
      w.grownBy w' (some r) → w'.heap.size = w.heap.size → (Instr.entry (.pointer (some ⟨r, 0, none⟩))).run Try.prog w' = .ok (.tuple #[.int .i64 x, .int .i64 c]) w' → wpList Try.prog ops Q rest (a.put o.dst (.tuple #[.bool true, .int .i64 x, .int .i64 c])) w') :
    wpList Try.prog ops Q (o :: rest) a w := by
  obtain ⟨es, left, cnt, h1, h2, h3, h4, done, h5⟩ := h
  refine wpList_next_ranges_ii w hg it hop 3 3 .i64 .i64 lawI Try.underlying3 Try.underlying3 b r _ _ left cnt hit h1 (fun _ hl => hDone ?_) (fun x c w' cnt' hwx hwc hlx hat hrg hlt hgr hs hen => ?_)
  · cases todo with
    | nil => rfl
    | cons p t =>
      have h6 := h4 p.1
      rw [hl] at h6
      simp [lookK] at h6
  · have hnt : (todo.map (·.1)).Nodup := by
      have := (h5.map (·.1)).nodup_iff.2 h3
      rw [List.map_append] at this
      exact (List.nodup_append.1 this).2.1
    have hmem : (x, c) ∈ todo := by
      rw [h4 x] at hlx
      obtain ⟨v, hv⟩ := Option.isSome_iff_exists.1 hlx
      have hm := lookK_some hv
      have hml : (x, v) ∈ l := h5.mem_iff.1 (List.mem_append_right _ hm)
      have := hat (.lit (.int .i64 0))
      rw [atKey_own h2 h3, lookK_mem h3 hml] at this
      injection this with this; injection this with _ this; subst this
      exact hm
    refine hMore x c w' hwx hwc hmem ⟨es, _, cnt', hrg, h2, h3, fun k => ?_, done ++ [(x, c)], ?_⟩ (by rw [hrg.left_eq, h1.left_eq]; exact hlt) hgr hs hen
    · show (left (.int .i64 k) && !(Lit.int .i64 k).sameKey (.int .i64 x)) = _
      rw [h4 k, sameK]
      have hpe := List.perm_cons_erase hmem
      have hne : (((todo.erase (x, c)).map (·.1))).Nodup := (List.erase_sublist.map _).nodup hnt
      have hnx : ∀ q ∈ todo.erase (x, c), q.1 ≠ x := by
        have := (hpe.map (·.1)).nodup_iff.1 hnt
        rw [List.map_cons, List.nodup_cons] at this
        exact fun q hq e => this.1 (List.mem_map.2 ⟨q, hq, e⟩)
      by_cases hkx : k = x
      · subst hkx
        simp only [beq_self_eq_true, Bool.not_true, Bool.and_false]
        cases hl : lookK k (todo.erase (k, c)) with
        | none => rfl
        | some v => exact absurd rfl (hnx _ (lookK_some hl))
      · have hb : (k == x) = false := by simp [hkx]
        rw [hb, Bool.not_false, Bool.and_true]
        cases hl : lookK k todo with
        | some v =>
          have hm := lookK_some hl
          rw [lookK_mem hne ((List.mem_erase_of_ne (by intro e; injection e with e _; exact hkx e)).2 hm)]
        | none =>
          cases hl' : lookK k (todo.erase (x, c)) with
          | none => rfl
          | some v => exact absurd rfl (lookK_none hl _ (List.mem_of_mem_erase (lookK_some hl')))
    · rw [List.append_assoc]
      exact (List.Perm.append_left done (List.perm_cons_erase hmem).symm).trans h5
end
end Go.Proofs.Ytbljiohdfjmhfaa
