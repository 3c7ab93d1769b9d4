/- Lists by links, the plain law: lists that may be are what their walks say, and back. No program in sight. -/
import Derived.Test.YthicpjfdljgfpaaChn
namespace Go.Proofs.Ythicpjfdljgfpaa
set_option linter.unusedSimpArgs false
set_option linter.unusedVariables false

theorem sub_len {w P : List Nat} (hn : w.Nodup) (hs : ∀ x ∈ w, x ∈ P) : w.length ≤ P.length := by
  induction w generalizing P with
  | nil => simp
  | cons a r ih =>
    obtain ⟨ha, hr⟩ := List.nodup_cons.1 hn
    have h1 : a ∈ P := hs a (by simp)
    have h2 := ih hr (P := P.erase a) (fun x hx => (List.mem_erase_of_ne (fun (e : x = a) => ha (e ▸ hx))).2 (hs x (by simp [hx])))
    rw [List.length_erase_of_mem h1] at h2
    have : 0 < P.length := List.length_pos_of_mem h1
    simp; omega
theorem sub_all {w P : List Nat} (hn : w.Nodup) (hs : ∀ x ∈ w, x ∈ P) (hl : P.length ≤ w.length) {p : Nat} (hp : p ∈ P) : p ∈ w := by
  by_cases h : p ∈ w
  · exact h
  · have h2 := sub_len (P := P.erase p) hn (fun x hx => (List.mem_erase_of_ne (fun (e : x = p) => h (e ▸ hx))).2 (hs x hx))
    rw [List.length_erase_of_mem hp] at h2
    have : 0 < P.length := List.length_pos_of_mem hp
    omega
def nd0 : Nd := ⟨-1, -1, -1⟩
def cGo (ns : List Nd) : Nat → Int → List Nat
  | 0, _ => []
  | f + 1, a => if a < 0 then [] else a.toNat :: cGo ns f (ns.getD a.toNat nd0).n
def cWalk (st : Ch) (i : Nat) : List Nat := cGo st.ns (st.ns.length + 1) (st.hs.getD i (-1))
def cChain (ns : List Nd) (i : Nat) : Int → List Nat → Bool
  | _, [] => true
  | q, a :: r => (ns.getD a nd0).l == (i : Int) && (ns.getD a nd0).p == q && cChain ns i a r
def cMany (st : Ch) (i : Nat) : Nat := (st.ns.filter (fun x => x.l == (i : Int))).length
def cRight (st : Ch) (i : Nat) : Bool := (cWalk st i).length == cMany st i && cChain st.ns i (-1) (cWalk st i) && st.ts.getD i (-1) == lst (cWalk st i)
def cIn (n a b : Int) : Bool := decide (a ≤ n) && decide (n ≤ b)
def cLinks (st : Ch) : Bool := st.ns.all (fun x => cIn x.l (-1) (st.hs.length - 1) && cIn x.n (-1) (st.ns.length - 1) && cIn x.p (-1) (st.ns.length - 1)) && st.hs.all (fun x => cIn x (-1) (st.ns.length - 1)) && st.ts.all (fun x => cIn x (-1) (st.ns.length - 1))
def cForm (st : Ch) : Bool := st.ns.all (fun x => !(decide (x.l < 0) && (decide (0 ≤ x.n) || decide (0 ≤ x.p))))
def cSize (st : Ch) : Bool := cIn st.ns.length 1 64 && cIn st.hs.length 1 8 && st.ts.length == st.hs.length
def cCheck (st : Ch) : Int := if cSize st = false then 5 else if cLinks st = false then 8 else if cForm st = false then 4 else if (List.range st.hs.length).all (cRight st) = false then 10 else 0
theorem cIn_t {n a b : Int} (h : cIn n a b = true) : a ≤ n ∧ n ≤ b := by simpa [cIn] using h

theorem cGo_bd {ns : List Nd} {n : Nat} (hns : ∀ x ∈ ns, -1 ≤ x.n ∧ x.n ≤ (n : Int) - 1) : ∀ (f : Nat) (a : Int), a ≤ (n : Int) - 1 → ∀ p ∈ cGo ns f a, p < n
  | 0, _, _, p, hp => by cases hp
  | f + 1, a, ha, p, hp => by
    unfold cGo at hp
    split at hp
    · cases hp
    · rcases List.mem_cons.1 hp with rfl | hp
      · omega
      · refine cGo_bd hns f _ ?_ p hp
        rw [List.getD_eq_getElem?_getD]
        cases h : ns[a.toNat]? with
        | none => simp [nd0]; omega
        | some x => exact (hns x (List.mem_of_getElem? h)).2
theorem cGo_nxt {ns : List Nd} (hns : ∀ x ∈ ns, -1 ≤ x.n) : ∀ (f : Nat) (a : Int), (cGo ns f a).Nodup → (cGo ns f a).length < f → ∀ p ∈ cGo ns f a, (ns.getD p nd0).n = nxt (cGo ns f a) p
  | 0, _, _, _, p, hp => by cases hp
  | f + 1, a, hn, hl, p, hp => by
    unfold cGo at hn hl hp ⊢
    split at hp
    · cases hp
    · rename_i ha
      rw [if_neg ha] at hn hl ⊢
      obtain ⟨h1, h2⟩ := List.nodup_cons.1 hn
      have hl' : (cGo ns f (ns.getD a.toNat nd0).n).length < f := by simpa using hl
      have hb : -1 ≤ (ns.getD a.toNat nd0).n := by
        rw [List.getD_eq_getElem?_getD]
        cases h : ns[a.toNat]? with
        | none => simp [nd0]
        | some x => exact hns x (List.mem_of_getElem? h)
      by_cases hpa : p = a.toNat
      · subst hpa
        generalize hv : (ns.getD a.toNat nd0).n = v at *
        obtain ⟨f', rfl⟩ : ∃ f', f = f' + 1 := ⟨f - 1, by omega⟩
        unfold cGo
        split
        · simp [nxt]; omega
        · simp [nxt]; omega
      · have hp' : p ∈ cGo ns f (ns.getD a.toNat nd0).n := by simpa [hpa] using hp
        have := cGo_nxt hns f _ h2 hl' p hp'
        rw [this]
        generalize cGo ns f (ns.getD a.toNat nd0).n = r at *
        cases r with
        | nil => cases hp'
        | cons y r => simp [nxt, Ne.symm hpa]
theorem cChain_prv {ns : List Nd} {i : Nat} : ∀ (w : List Nat) (q : Int), cChain ns i q w = true → w.Nodup → ∀ p ∈ w, (ns.getD p nd0).l = (i : Int) ∧ (ns.getD p nd0).p = prv q w p
  | [], _, _, _, p, hp => by cases hp
  | a :: r, q, h, hn, p, hp => by
    simp only [cChain, Bool.and_eq_true, beq_iff_eq] at h
    by_cases hpa : p = a
    · subst hpa; exact ⟨h.1.1, by rw [h.1.2]; simp [prv]⟩
    · have hp' : p ∈ r := by simpa [hpa] using hp
      have := cChain_prv r a h.2 (List.nodup_cons.1 hn).2 p hp'
      simpa [prv, Ne.symm hpa] using this
/-- a walk whose links back are right meets no place twice -/
theorem cChain_at {ns : List Nd} {i : Nat} : ∀ (w : List Nat) (q : Int), cChain ns i q w = true → ∀ (j : Nat) (hj : j < w.length), (ns.getD w[j] nd0).l = (i : Int) ∧ (ns.getD w[j] nd0).p = if j = 0 then q else ((w.getD (j - 1) 0 : Nat) : Int)
  | [], _, _, j, hj => by simp at hj
  | a :: r, q, h, j, hj => by
    simp only [cChain, Bool.and_eq_true, beq_iff_eq] at h
    cases j with
    | zero => simpa using h.1
    | succ j =>
      have := cChain_at r a h.2 j (by simpa using hj)
      cases j with
      | zero => simpa using this
      | succ j => simpa using this
theorem cChain_nodup {ns : List Nd} {i : Nat} {w : List Nat} (h : cChain ns i (-1) w = true) : w.Nodup := by
  have key : ∀ (a b : Nat) (ha : a < w.length) (hb : b < w.length), a < b → w[a] ≠ w[b] := by
    intro a
    induction a with
    | zero =>
      intro b ha hb hab e
      have h1 := (cChain_at w _ h 0 ha).2
      have h2 := (cChain_at w _ h b hb).2
      rw [← e, h1] at h2
      rw [if_pos rfl, if_neg (by omega)] at h2
      omega
    | succ a ih =>
      intro b ha hb hab e
      have h1 := (cChain_at w _ h (a + 1) ha).2
      have h2 := (cChain_at w _ h b hb).2
      rw [← e, h1] at h2
      rw [if_neg (by omega), if_neg (by omega)] at h2
      have h3 := ih (b - 1) (by omega) (by omega) (by omega)
      have e1 : w.getD (a + 1 - 1) 0 = w[a] := by simp [List.getD, show a < w.length by omega]
      have e2 : w.getD (b - 1) 0 = w[b - 1] := by simp [List.getD, show b - 1 < w.length by omega]
      rw [e1, e2] at h2
      omega
  rw [List.nodup_iff_pairwise_ne] at *
  exact List.pairwise_iff_getElem.2 fun a b ha hb hab => key a b ha hb hab
theorem getD_get {ns : List Nd} {p : Nat} (h : p < ns.length) : ns.getD p nd0 = ns[p] := by simp [List.getD, h]
/-- lists that may be are just what their walks say -/
theorem check_laid {st : Ch} (h : cCheck st = 0) : Vl st.ns.length ((List.range st.hs.length).map (cWalk st)) ∧ st = laid st.ns.length ((List.range st.hs.length).map (cWalk st)) ∧ (1 ≤ st.ns.length ∧ st.ns.length ≤ 64) ∧ 1 ≤ st.hs.length ∧ st.hs.length ≤ 8 := by
  unfold cCheck at h
  split at h
  · cases h
  rename_i hz
  split at h
  · cases h
  rename_i hk
  split at h
  · cases h
  rename_i hf
  split at h
  · cases h
  rename_i hr
  clear h
  have hz : cSize st = true := by simpa using hz
  have hk : cLinks st = true := by simpa using hk
  have hf : cForm st = true := by simpa using hf
  have hr : (List.range st.hs.length).all (cRight st) = true := by simpa using hr
  simp only [cSize, Bool.and_eq_true, beq_iff_eq] at hz
  obtain ⟨⟨z1, z2⟩, z3⟩ := hz
  have z1 := cIn_t z1
  have z2 := cIn_t z2
  simp only [cLinks, Bool.and_eq_true, List.all_eq_true] at hk
  obtain ⟨⟨k1, k2⟩, k3⟩ := hk
  have hnb : ∀ x ∈ st.ns, -1 ≤ x.n ∧ x.n ≤ (st.ns.length : Int) - 1 := fun x hx => cIn_t (k1 x hx).1.2
  have hpb : ∀ x ∈ st.ns, -1 ≤ x.p ∧ x.p ≤ (st.ns.length : Int) - 1 := fun x hx => cIn_t (k1 x hx).2
  have hlb : ∀ x ∈ st.ns, -1 ≤ x.l ∧ x.l ≤ (st.hs.length : Int) - 1 := fun x hx => cIn_t (k1 x hx).1.1
  have hhb : ∀ i, i < st.hs.length → -1 ≤ st.hs.getD i (-1) ∧ st.hs.getD i (-1) ≤ (st.ns.length : Int) - 1 := fun i hi => by
    have : st.hs.getD i (-1) = st.hs[i] := by simp [List.getD, hi]
    rw [this]; exact cIn_t (k2 _ (List.getElem_mem hi))
  have hR : ∀ i, i < st.hs.length → (cWalk st i).length = cMany st i ∧ cChain st.ns i (-1) (cWalk st i) = true ∧ st.ts.getD i (-1) = lst (cWalk st i) := fun i hi => by
    have := List.all_eq_true.1 hr i (List.mem_range.2 hi)
    simp only [cRight, Bool.and_eq_true, beq_iff_eq] at this
    exact ⟨this.1.1, this.1.2, this.2⟩
  have hbd : ∀ i, i < st.hs.length → ∀ p ∈ cWalk st i, p < st.ns.length := fun i hi => cGo_bd hnb _ _ (hhb i hi).2
  have hnd : ∀ i, i < st.hs.length → (cWalk st i).Nodup := fun i hi => cChain_nodup (hR i hi).2.1
  have hcl : ∀ i, i < st.hs.length → (cWalk st i).length < st.ns.length + 1 := fun i hi => by
    have := sub_len (P := List.range st.ns.length) (hnd i hi) (fun x hx => List.mem_range.2 (hbd i hi x hx))
    simp at this; omega
  have hpr : ∀ i, i < st.hs.length → ∀ p ∈ cWalk st i, (st.ns.getD p nd0).l = (i : Int) ∧ (st.ns.getD p nd0).p = prv (-1) (cWalk st i) p := fun i hi => cChain_prv _ _ (hR i hi).2.1 (hnd i hi)
  have hnx : ∀ i, i < st.hs.length → ∀ p ∈ cWalk st i, (st.ns.getD p nd0).n = nxt (cWalk st i) p := fun i hi => cGo_nxt (fun x hx => (hnb x hx).1) _ _ (hnd i hi) (hcl i hi)
  -- whose list number is i stands in its walk
  have hin : ∀ i, i < st.hs.length → ∀ p, p < st.ns.length → (st.ns.getD p nd0).l = (i : Int) → p ∈ cWalk st i := fun i hi p hp hl => by
    have hlen : ((List.range st.ns.length).filter (fun q => (st.ns.getD q nd0).l == (i : Int))).length = cMany st i := by
      unfold cMany
      have e : st.ns = (List.range st.ns.length).map (fun q => st.ns.getD q nd0) := by
        apply List.ext_getElem?
        intro q
        by_cases hq : q < st.ns.length
        · simp [hq, List.getD]
        · simp [hq]
      conv => rhs; rw [e]
      rw [List.filter_map, List.length_map]; rfl
    refine sub_all (P := (List.range st.ns.length).filter (fun q => (st.ns.getD q nd0).l == (i : Int))) (hnd i hi) (fun x hx => List.mem_filter.2 ⟨List.mem_range.2 (hbd i hi x hx), by simpa using (hpr i hi x hx).1⟩) (by rw [hlen, (hR i hi).1]; exact Nat.le_refl _) (List.mem_filter.2 ⟨List.mem_range.2 hp, by simpa using hl⟩)
  have hv : Vl st.ns.length ((List.range st.hs.length).map (cWalk st)) := by
    refine ⟨fun l hl p hp => ?_, ?_⟩
    · obtain ⟨i, hi, rfl⟩ := List.mem_map.1 hl
      exact hbd i (List.mem_range.1 hi) p hp
    · unfold List.Nodup
      rw [List.pairwise_flatten]
      refine ⟨fun l hl => ?_, ?_⟩
      · obtain ⟨i, hi, rfl⟩ := List.mem_map.1 hl
        exact hnd i (List.mem_range.1 hi)
      · rw [List.pairwise_map]
        refine List.Pairwise.imp_of_mem ?_ List.pairwise_lt_range
        intro a b ha hb hab p h1 q h2 e
        subst e
        have e1 := (hpr a (List.mem_range.1 ha) p h1).1
        have e2 := (hpr b (List.mem_range.1 hb) p h2).1
        omega
  refine ⟨hv, ?_, by omega, by omega⟩
  refine ch_ext ?_ ?_ ?_
  · apply List.ext_getElem?
    intro p
    rw [laid_get]
    by_cases hp : p < st.ns.length
    · rw [if_pos hp, List.getElem?_eq_getElem hp]
      congr 1
      have hg := getD_get hp
      have hmem := List.getElem_mem hp
      have hl := hlb _ hmem
      by_cases hneg : st.ns[p].l < 0
      · have h1 := List.all_eq_true.1 hf _ hmem
        have hn1 := hnb _ hmem
        have hp1 := hpb _ hmem
        simp [hneg] at h1
        have hno : ∀ m ∈ (List.range st.hs.length).map (cWalk st), p ∉ m := fun m hm hpm => by
          obtain ⟨i, hi, rfl⟩ := List.mem_map.1 hm
          have := (hpr i (List.mem_range.1 hi) p hpm).1
          rw [hg] at this; omega
        have e : ndOf ((List.range st.hs.length).map (cWalk st)) p = ⟨-1, -1, -1⟩ := ndGo_none hno 0
        rw [e]
        generalize st.ns[p] = x at *
        cases x
        simp at *
        omega
      · obtain ⟨i, hi, hil⟩ : ∃ i : Nat, i < st.hs.length ∧ st.ns[p].l = (i : Int) := ⟨st.ns[p].l.toNat, by omega, by omega⟩
        have hpi := hin i hi p hp (by rw [hg]; exact hil)
        have e1 : (List.range st.hs.length).map (cWalk st) = (List.range i).map (cWalk st) ++ cWalk st i :: ((List.range st.hs.length).drop (i + 1)).map (cWalk st) := by
          conv => lhs; rw [← List.take_append_drop i (List.range st.hs.length)]
          rw [List.map_append, List.take_range, Nat.min_eq_left (Nat.le_of_lt hi), List.drop_eq_getElem_cons (by simpa using hi), List.map_cons]
          simp
        rw [e1, ndOf_at (fun m hm hpm => by
          obtain ⟨j, hj, rfl⟩ := List.mem_map.1 hm
          have hj' := List.mem_range.1 hj
          have := (hpr j (by omega) p hpm).1
          rw [hg, hil] at this; omega) hpi, ← hnx i hi p hpi, ← (hpr i hi p hpi).2, hg]
        have h3 := (hpr i hi p hpi).1
        rw [hg] at h3
        generalize st.ns[p] = x at *
        cases x
        simp at *
        exact h3
    · rw [if_neg hp]; exact List.getElem?_eq_none (by omega)
  · apply List.ext_getElem?
    intro i
    by_cases hi : i < st.hs.length
    · have hb := hhb i hi
      have e : hd (cWalk st i) = st.hs.getD i (-1) := by
        unfold cWalk cGo
        split
        · simp only [hd]; omega
        · simp only [hd]; omega
      have e2 : st.hs.getD i (-1) = st.hs[i] := by simp [List.getD, hi]
      simp [laid, hi, e]
    · simp [laid, hi]
  · apply List.ext_getElem?
    intro i
    by_cases hi : i < st.hs.length
    · have e := (hR i hi).2.2
      have e2 : st.ts.getD i (-1) = st.ts[i] := by simp [List.getD, z3, hi]
      simp [laid, hi, ← e, z3]
    · simp [laid, hi, z3]
theorem vl_get {n : Nat} {A B : List (List Nat)} {l : List Nat} (hv : Vl n (A ++ l :: B)) : l.Nodup ∧ (∀ p ∈ l, p < n) ∧ ∀ p ∈ l, ∀ q ∈ A, p ∉ q := by
  have hvd := hv.2
  simp only [List.flatten_append, List.flatten_cons] at hvd
  exact ⟨(List.nodup_append.1 (List.nodup_append.1 hvd).2.1).1, hv.1 l (by simp), fun p hp q hq h => (List.nodup_append.1 hvd).2.2 p (List.mem_flatten.2 ⟨q, hq, h⟩) p (by simp [hp]) rfl⟩
theorem walk_go {n : Nat} {A B : List (List Nat)} {l : List Nat} (hv : Vl n (A ++ l :: B)) : ∀ (suf pre : List Nat) (f : Nat), l = pre ++ suf → suf.length ≤ f → cGo (laid n (A ++ l :: B)).ns (f + 1) (hd suf) = suf
  | [], _, f, _, _ => by simp [cGo, hd]
  | a :: r, pre, f, e, hf => by
    obtain ⟨hn, hb, hA⟩ := vl_get hv
    have hal : a ∈ l := by rw [e]; simp
    have han := hb a hal
    have hpre : a ∉ pre := fun h => by
      rw [e] at hn
      exact (List.nodup_append.1 hn).2.2 a h a (by simp) rfl
    have hx : ((laid n (A ++ l :: B)).ns.getD a nd0).n = hd r := by
      rw [List.getD_eq_getElem?_getD, laid_get, if_pos han, ndOf_at (hA a hal) hal]
      show nxt l a = hd r
      rw [e, nxt_app_r (a :: r) hpre]
      cases r <;> simp [nxt, hd]
    obtain ⟨f', rfl⟩ : ∃ f', f = f' + 1 := ⟨f - 1, by simp at hf; omega⟩
    have ih := walk_go hv r (pre ++ [a]) f' (by rw [e]; simp) (by simpa using hf)
    rw [cGo]
    rw [if_neg (by simp [hd]), show (hd (a :: r)).toNat = a by simp [hd], hx, ih]
theorem walk_laid {n : Nat} {A B : List (List Nat)} {l : List Nat} (hv : Vl n (A ++ l :: B)) : cWalk (laid n (A ++ l :: B)) A.length = l := by
  have hlen : (laid n (A ++ l :: B)).ns.length = n := by simp [laid]
  have hh : (laid n (A ++ l :: B)).hs.getD A.length (-1) = hd l := by simp [laid]
  obtain ⟨hn, hb, hA⟩ := vl_get hv
  have h1 := sub_len (P := List.range n) hn (fun x hx => List.mem_range.2 (hb x hx))
  unfold cWalk
  rw [hlen, hh]
  exact walk_go hv l [] n rfl (by simpa using h1)
theorem chain_laid {n : Nat} {A B : List (List Nat)} {l : List Nat} (hv : Vl n (A ++ l :: B)) : ∀ (suf pre : List Nat), l = pre ++ suf → cChain (laid n (A ++ l :: B)).ns A.length (lst pre) suf = true
  | [], _, _ => rfl
  | a :: r, pre, e => by
    obtain ⟨hn, hb, hA⟩ := vl_get hv
    have hal : a ∈ l := by rw [e]; simp
    have han := hb a hal
    have hpre : a ∉ pre := fun h => by
      rw [e] at hn
      exact (List.nodup_append.1 hn).2.2 a h a (by simp) rfl
    have hx : (laid n (A ++ l :: B)).ns.getD a nd0 = ⟨(A.length : Int), nxt l a, lst pre⟩ := by
      rw [List.getD_eq_getElem?_getD, laid_get, if_pos han, ndOf_at (hA a hal) hal]
      show (⟨_, _, _⟩ : Nd) = _
      congr 1
      rw [e, prv_app_r1 (a :: r) hpre]; simp [prv]
    have ih := chain_laid hv r (pre ++ [a]) (by rw [e]; simp)
    rw [lst_snoc] at ih
    simp only [cChain, hx, ih, beq_self_eq_true, Bool.and_self]
theorem nxt_bd {l : List Nat} {p n : Nat} (h : ∀ x ∈ l, x < n) : -1 ≤ nxt l p ∧ nxt l p ≤ (n : Int) - 1 := by
  induction l with
  | nil => simp [nxt]; omega
  | cons a r ih =>
    have ih := ih (fun x hx => h x (by simp [hx]))
    cases r with
    | nil => simp [nxt]; omega
    | cons b r =>
      have hb := h b (by simp)
      unfold nxt
      split
      · omega
      · exact ih
theorem prv_bd {l : List Nat} {p n : Nat} (h : ∀ x ∈ l, x < n) : ∀ q : Int, -1 ≤ q ∧ q ≤ (n : Int) - 1 → -1 ≤ prv q l p ∧ prv q l p ≤ (n : Int) - 1 := by
  induction l with
  | nil => intro q hq; simp [prv]; omega
  | cons a r ih =>
    intro q hq
    have ha := h a (by simp)
    unfold prv
    split
    · exact hq
    · exact ih (fun x hx => h x (by simp [hx])) _ (by omega)
theorem nd_cases {n : Nat} {L : List (List Nat)} (hv : Vl n L) (p : Nat) : (ndOf L p = ⟨-1, -1, -1⟩ ∧ ∀ m ∈ L, p ∉ m) ∨ ∃ (A B : List (List Nat)) (l : List Nat), L = A ++ l :: B ∧ p ∈ l ∧ ndOf L p = ⟨(A.length : Int), nxt l p, prv (-1) l p⟩ := by
  by_cases h : ∃ m ∈ L, p ∈ m
  · obtain ⟨m, hm, hp⟩ := h
    obtain ⟨A, B, rfl⟩ := List.append_of_mem hm
    exact .inr ⟨A, B, m, rfl, hp, ndOf_at ((vl_get hv).2.2 p hp) hp⟩
  · have h' : ∀ m ∈ L, p ∉ m := fun m hm hp => h ⟨m, hm, hp⟩
    exact .inl ⟨ndGo_none h' 0, h'⟩
theorem laid_many {n : Nat} {A B : List (List Nat)} {l : List Nat} (hv : Vl n (A ++ l :: B)) : cMany (laid n (A ++ l :: B)) A.length = l.length := by
  obtain ⟨hn, hb, hA⟩ := vl_get hv
  have e : cMany (laid n (A ++ l :: B)) A.length = ((List.range n).filter (fun q => (ndOf (A ++ l :: B) q).l == (A.length : Int))).length := by
    unfold cMany laid
    dsimp only
    rw [List.filter_map, List.length_map]; rfl
  rw [e]
  refine Nat.le_antisymm ?_ ?_
  · refine sub_len (List.Pairwise.filter _ List.nodup_range) (fun p hp => ?_)
    obtain ⟨_, h2⟩ := List.mem_filter.1 hp
    have h2 : (ndOf (A ++ l :: B) p).l = (A.length : Int) := by simpa using h2
    rcases nd_cases hv p with ⟨e, _⟩ | ⟨A', B', l', e1, hp', e2⟩
    · rw [e] at h2; simp at h2 <;> omega
    · rw [e2] at h2
      have h3 : A'.length = A.length := by
        have : (A'.length : Int) = (A.length : Int) := by simpa using h2
        omega
      have h4 : A' = A ∧ l' :: B' = l :: B := List.append_inj e1.symm h3
      simp at h4
      rw [← h4.2.1]; exact hp'
  · refine sub_len hn (fun p hp => List.mem_filter.2 ⟨List.mem_range.2 (hb p hp), ?_⟩)
    rw [ndOf_at (hA p hp) hp]; simp
theorem right_laid {n : Nat} {A B : List (List Nat)} {l : List Nat} (hv : Vl n (A ++ l :: B)) : cRight (laid n (A ++ l :: B)) A.length = true := by
  unfold cRight
  rw [walk_laid hv, laid_many hv]
  have h1 := chain_laid hv l [] rfl
  have h2 : (laid n (A ++ l :: B)).ts.getD A.length (-1) = lst l := by simp [laid]
  rw [h2]
  simp only [lst] at h1
  rw [h1]; simp
theorem hd_bd {l : List Nat} {n : Nat} (h : ∀ x ∈ l, x < n) : -1 ≤ hd l ∧ hd l ≤ (n : Int) - 1 := by
  rcases hd_cases l with ⟨_, e⟩ | ⟨b, hb, e⟩
  · rw [e]; omega
  · have := h b hb; rw [e]; omega
theorem lst_bd {l : List Nat} {n : Nat} (h : ∀ x ∈ l, x < n) : -1 ≤ lst l ∧ lst l ≤ (n : Int) - 1 := by
  rcases lst_cases l with ⟨_, e⟩ | ⟨b, hb, e⟩
  · rw [e]; omega
  · have := h b hb; rw [e]; omega
theorem cIn_mk {n a b : Int} (h : a ≤ n ∧ n ≤ b) : cIn n a b = true := by simp [cIn, h]
theorem check_of {n : Nat} {L : List (List Nat)} (hv : Vl n L) (hn : 1 ≤ n ∧ n ≤ 64) (hL : 1 ≤ L.length ∧ L.length ≤ 8) : cCheck (laid n L) = 0 := by
  have e1 : (laid n L).ns.length = n := by simp [laid]
  have e2 : (laid n L).hs.length = L.length := by simp [laid]
  have e3 : (laid n L).ts.length = L.length := by simp [laid]
  have hz : cSize (laid n L) = true := by
    unfold cSize
    rw [e1, e2, e3, cIn_mk (by omega), cIn_mk (by omega)]; simp
  have hnode : ∀ x ∈ (laid n L).ns, ∃ p, p < n ∧ x = ndOf L p := fun x hx => by
    simp only [laid, List.mem_map, List.mem_range] at hx
    obtain ⟨p, hp, rfl⟩ := hx
    exact ⟨p, hp, rfl⟩
  have hk : cLinks (laid n L) = true := by
    unfold cLinks
    rw [e1, e2]
    simp only [Bool.and_eq_true, List.all_eq_true]
    refine ⟨⟨fun x hx => ?_, fun x hx => ?_⟩, fun x hx => ?_⟩
    · obtain ⟨p, hp, rfl⟩ := hnode x hx
      rcases nd_cases hv p with ⟨e, _⟩ | ⟨A, B, l, e, hpl, e'⟩
      · rw [e]; exact ⟨⟨cIn_mk (by dsimp only; omega), cIn_mk (by dsimp only; omega)⟩, cIn_mk (by dsimp only; omega)⟩
      · rw [e']
        have hm : ∀ x ∈ l, x < n := hv.1 l (by rw [e]; simp)
        have h1 := nxt_bd (p := p) hm
        have h2 := prv_bd (p := p) hm (-1) (by omega)
        have h3 : A.length < L.length := by rw [e]; simp
        exact ⟨⟨cIn_mk (by dsimp only; omega), cIn_mk h1⟩, cIn_mk h2⟩
    · simp only [laid, List.mem_map] at hx
      obtain ⟨l, hl, rfl⟩ := hx
      exact cIn_mk (hd_bd (hv.1 l hl))
    · simp only [laid, List.mem_map] at hx
      obtain ⟨l, hl, rfl⟩ := hx
      exact cIn_mk (lst_bd (hv.1 l hl))
  have hf : cForm (laid n L) = true := by
    unfold cForm
    rw [List.all_eq_true]
    intro x hx
    obtain ⟨p, hp, rfl⟩ := hnode x hx
    rcases nd_cases hv p with ⟨e, _⟩ | ⟨A, B, l, e, hpl, e'⟩
    · rw [e]; rfl
    · rw [e']
      have : ¬ ((A.length : Int) < 0) := by omega
      simp [this]
  have hr : (List.range (laid n L).hs.length).all (cRight (laid n L)) = true := by
    rw [List.all_eq_true]
    intro i hi
    rw [e2] at hi
    have hi := List.mem_range.1 hi
    have e : L = L.take i ++ L[i] :: L.drop (i + 1) := by
      conv => lhs; rw [← List.take_append_drop i L]
      rw [List.drop_eq_getElem_cons hi]
    have hl : (L.take i).length = i := by simp; omega
    have := right_laid (n := n) (A := L.take i) (B := L.drop (i + 1)) (l := L[i]) (by rw [← e]; exact hv)
    rw [← e, hl] at this
    exact this
  unfold cCheck
  rw [hz, hk, hf, hr]; simp
end Go.Proofs.Ythicpjfdljgfpaa
