/- A quick check that a region's operations may be walked in the order of the text: by masks (the kit's own Bool is quartic in the operations). No program in sight. -/
import Derived.Test.YtfbllioegeadfaaDoorRel
namespace Go.Proofs.YtfbllioegeadfaaDoor
open Go.RowKit Go.Sort
set_option linter.unusedSimpArgs false
set_option linter.unusedVariables false

def maskOf (l : List Nat) : Nat := l.foldl (fun m t => m ||| (1 <<< t)) 0
theorem mask_go (l : List Nat) (t : Nat) : ∀ m : Nat, (l.foldl (fun m t => m ||| (1 <<< t)) m).testBit t = (m.testBit t || l.contains t) := by
  induction l with
  | nil => intro m; simp
  | cons a l ih =>
    intro m
    rw [List.foldl_cons, ih, Nat.testBit_or, Nat.one_shiftLeft, Nat.testBit_two_pow, List.contains_cons, Bool.or_assoc]
    congr 2
    rw [Bool.eq_iff_iff]; simp; exact eq_comm
theorem mask_bit (l : List Nat) (t : Nat) : (maskOf l).testBit t = l.contains t := by
  rw [maskOf, mask_go]; simp
abbrev OpI := Nat × Nat × Nat
def dN (d : Option Tmp) : Nat := match d with | none => 0 | some t => t + 1
def lookM (ops : Array Oper) (o : Oper) : Nat := maskOf ((o.looksAt ops).map fun t => t + 1)
def edgeM (o : Oper) : Nat := maskOf ((o.after.toList.filter fun e => Region.binds .any e).map fun e => e.on)
def opI (ops : Array Oper) (o : Oper) : OpI := (dN o.dst, lookM ops o, edgeM o)
def apartM (x y : OpI) : Bool := !y.2.1.testBit x.1 && !x.2.1.testBit y.1 && (x.1 == 0 || y.1 != x.1)
theorem look_bit (ops : Array Oper) (o : Oper) (d : Tmp) : (lookM ops o).testBit (d + 1) = (o.looksAt ops).contains d := by
  rw [lookM, mask_bit, Bool.eq_iff_iff]
  simp [List.contains_iff_mem]
theorem apartM_spec {ops : Array Oper} {x y : Oper} (h : apartM (opI ops x) (opI ops y) = true) : x.apart ops y = true := by
  unfold apartM opI at h
  dsimp only at h
  simp only [Bool.and_eq_true, Bool.not_eq_true'] at h
  obtain ⟨⟨h1, h2⟩, h3⟩ := h
  unfold Oper.apart
  rw [Bool.and_eq_true]
  constructor
  · cases hx : x.dst with
    | none => rfl
    | some d =>
      rw [hx] at h1 h3
      simp only [dN] at h1 h3
      rw [look_bit] at h1
      have h4 : y.dst ≠ some d := by
        intro e
        rw [e] at h3
        simp [dN] at h3
      have h5 : d ∉ y.looksAt ops := fun hm => by rw [List.contains_iff_mem.2 hm] at h1; cases h1
      simp [h5, h4]
  · cases hy : y.dst with
    | none => rfl
    | some d =>
      rw [hy] at h2
      simp only [dN] at h2
      rw [look_bit] at h2
      have h5 : d ∉ x.looksAt ops := fun hm => by rw [List.contains_iff_mem.2 hm] at h2; cases h2
      simp [h5]
theorem edge_lt {o : Oper} {k : Nat} (h : edgeM o < 2 ^ k) {e : Edge} (he : e ∈ o.after) (hb : Region.binds .any e = true) : e.on < k := by
  rcases Nat.lt_or_ge e.on k with h1 | h1
  · exact h1
  · have h2 : (edgeM o).testBit e.on = true := by
      rw [edgeM, mask_bit, List.contains_iff_mem, List.mem_map]
      exact ⟨e, by rw [List.mem_filter]; exact ⟨by simpa using he, hb⟩, rfl⟩
    rw [Nat.testBit_lt_two_pow (Nat.lt_of_lt_of_le h (Nat.pow_le_pow_right (by omega) h1))] at h2
    cases h2
theorem edge_any {o : Oper} {k : Nat} (h : (edgeM o).testBit k = true) : o.after.any (fun e => Region.binds .any e && e.on == k) = true := by
  rw [edgeM, mask_bit, List.contains_iff_mem, List.mem_map] at h
  obtain ⟨e, he, hk⟩ := h
  rw [List.mem_filter] at he
  rw [Array.any_eq_true']
  exact ⟨e, by simpa using he.1, by rw [Bool.and_eq_true, beq_iff_eq]; exact ⟨he.2, hk⟩⟩
def fastOne (k : Nat) (x : OpI) : List OpI → Bool
  | [] => true
  | y :: r => (y.2.2.testBit k || apartM x y) && fastOne k x r
def fastGo : Nat → List OpI → Bool
  | _, [] => true
  | k, x :: r => Nat.blt x.2.2 (2 ^ k) && fastOne k x r && fastGo (k + 1) r
def fastLex (l : List Oper) : Bool := Region.noSelect l.toArray && fastGo 0 (l.map (opI l.toArray))
theorem fastOne_spec {k : Nat} {x : OpI} : ∀ {r : List OpI}, fastOne k x r = true → ∀ (j : Nat) (y : OpI), r[j]? = some y → (y.2.2.testBit k || apartM x y) = true
  | [], _, j, y, h => by simp at h
  | z :: r, h, j, y, hj => by
    rw [fastOne, Bool.and_eq_true] at h
    cases j with
    | zero => simp at hj; subst hj; exact h.1
    | succ j => exact fastOne_spec h.2 j y (by simpa using hj)
theorem fastGo_spec : ∀ {r : List OpI} {k : Nat}, fastGo k r = true → ∀ (i : Nat) (x : OpI), r[i]? = some x → x.2.2 < 2 ^ (k + i) ∧ ∀ (j : Nat) (y : OpI), i < j → r[j]? = some y → (y.2.2.testBit (k + i) || apartM x y) = true
  | [], _, _, i, x, h => by simp at h
  | z :: r, k, h, i, x, hi => by
    rw [fastGo, Bool.and_eq_true, Bool.and_eq_true] at h
    cases i with
    | zero =>
      simp at hi; subst hi
      refine ⟨by have := h.1.1; rw [Nat.blt_eq] at this; exact this, fun j y hj hy => ?_⟩
      obtain ⟨j, rfl⟩ : ∃ m, j = m + 1 := ⟨j - 1, by omega⟩
      exact fastOne_spec h.1.2 j y (by simpa using hy)
    | succ i =>
      have := fastGo_spec h.2 i x (by simpa using hi)
      rw [show k + 1 + i = k + (i + 1) by omega] at this
      refine ⟨this.1, fun j y hj hy => ?_⟩
      obtain ⟨j, rfl⟩ : ∃ m, j = m + 1 := ⟨j - 1, by omega⟩
      exact this.2 j y (by omega) (by simpa using hy)
theorem lexB_of_fast {l : List Oper} (h : fastLex l = true) : Region.lexB .any l.toArray = true := by
  unfold fastLex at h
  rw [Bool.and_eq_true] at h
  obtain ⟨hs, hg⟩ := h
  have hsp := fastGo_spec hg
  have hrow : ∀ (i : Nat) (o : Oper), l.toArray[i]? = some o → (l.map (opI l.toArray))[i]? = some (opI l.toArray o) := fun i o ho => by
    simp only [List.getElem?_toArray] at ho
    rw [List.getElem?_map, ho]; rfl
  unfold Region.lexB
  rw [Bool.and_eq_true]
  refine ⟨hs, ?_⟩
  have key : ∀ (f k : Nat) (listed : Array Bool), k + f = l.length → listed.size = l.length → (∀ i, i < l.length → listed[i]? = some (decide (i < k))) → Region.lexFrom .any l.toArray f k listed = true := by
    intro f
    induction f with
    | zero =>
      intro k listed hk hsz hl
      rw [Region.lexFrom, List.isEmpty_iff, List.eq_nil_iff_forall_not_mem]
      intro i hi
      obtain ⟨h0, o, ho, _⟩ := mem_ready.1 hi
      have hil : i < l.length := by simpa using (Array.getElem?_eq_some_iff.1 ho).1
      rw [Array.getD_eq_getD_getElem?, hl i hil] at h0
      simp at h0
      omega
    | succ f ih =>
      intro k listed hk hsz hl
      have hkl : k < l.length := by omega
      obtain ⟨o, ho⟩ : ∃ o, l.toArray[k]? = some o := ⟨l[k], by simp [hkl]⟩
      have h1 := hsp k _ (hrow k o ho)
      rw [Nat.zero_add] at h1
      rw [Region.lexFrom, Bool.and_eq_true, Bool.and_eq_true]
      refine ⟨⟨?_, ?_⟩, ?_⟩
      · rw [List.contains_iff_mem]
        refine mem_ready.2 ⟨?_, o, ho, fun e he hb => ?_⟩
        · rw [Array.getD_eq_getD_getElem?, hl k hkl]; simp
        · have he2 := edge_lt h1.1 he hb
          rw [Array.getD_eq_getD_getElem?, hl e.on (by omega)]
          simpa using he2
      · unfold Region.free
        simp only [ho, List.all_eq_true, List.mem_range]
        intro j hj
        have hjl : j < l.length := by simpa using hj
        by_cases hjk : j = k
        · simp [hjk]
        · rcases Nat.lt_or_ge j k with hlt | hge
          · have : listed.getD j true = true := by rw [Array.getD_eq_getD_getElem?, hl j hjl]; simpa using hlt
            simp [this]
          · obtain ⟨oj, hoj⟩ : ∃ o, l.toArray[j]? = some o := ⟨l[j], by simp [hjl]⟩
            have h2 := h1.2 j _ (by omega) (hrow j oj hoj)
            rw [Bool.or_eq_true] at h2
            rcases h2 with h2 | h2
            · have := edge_any h2
              simp only [hoj]
              rw [this]; simp
            · have := apartM_spec h2
              simp only [hoj]
              rw [this]; simp
      · refine ih (k + 1) _ (by omega) (by simpa using hsz) (fun i hi => ?_)
        rw [Array.getElem?_setIfInBounds]
        split
        · rename_i h; subst h; simp [hsz, hi]
        · rename_i h
          rw [hl i hi]
          congr 1
          rw [decide_eq_decide]; omega
  refine key l.toArray.size 0 _ (by simp) (by simp) (fun i hi => ?_)
  simp [hi]
end Go.Proofs.YtfbllioegeadfaaDoor
