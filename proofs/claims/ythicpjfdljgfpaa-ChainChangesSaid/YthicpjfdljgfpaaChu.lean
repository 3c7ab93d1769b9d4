/- Lists by links, the plain law: what Push, Unlink, Turn, Splice make of the lists. No program in sight. -/
import Derived.Test.YthicpjfdljgfpaaCht
namespace Go.Proofs.Ythicpjfdljgfpaa
set_option linter.unusedSimpArgs false
set_option linter.unusedVariables false

def lists (st : Ch) : List (List Nat) := (List.range st.hs.length).map (cWalk st)
structure Good (n : Nat) (L : List (List Nat)) : Prop where
  vl : Vl n L
  n1 : 1 ≤ n
  n2 : n ≤ 64
  l1 : 1 ≤ L.length
  l2 : L.length ≤ 8
theorem at_split {L : List (List Nat)} {i : Nat} (hi : i < L.length) : L = L.take i ++ L[i] :: L.drop (i + 1) := by simp
theorem set_split {L : List (List Nat)} {i : Nat} (hi : i < L.length) (x : List Nat) : L.set i x = L.take i ++ x :: L.drop (i + 1) := by
  rw [List.set_eq_take_append_cons_drop, if_pos hi]
theorem take_len {L : List (List Nat)} {i : Nat} (hi : i < L.length) : (L.take i).length = i := by simp; omega
theorem walk_at {n : Nat} {L : List (List Nat)} (hv : Vl n L) {i : Nat} (hi : i < L.length) : cWalk (laid n L) i = L[i] := by
  have e := at_split hi
  have h := walk_laid (n := n) (A := L.take i) (B := L.drop (i + 1)) (l := L[i]) (by rw [← e]; exact hv)
  rwa [← e, take_len hi] at h
theorem laid_lens (n : Nat) (L : List (List Nat)) : (laid n L).ns.length = n ∧ (laid n L).hs.length = L.length ∧ (laid n L).ts.length = L.length := by simp [laid]
theorem lists_laid {n : Nat} {L : List (List Nat)} (hv : Vl n L) : lists (laid n L) = L := by
  unfold lists
  apply List.ext_getElem
  · simp [laid]
  · intro i h1 h2
    simp only [List.getElem_map, List.getElem_range]
    exact walk_at hv h2
theorem lists_len (st : Ch) : (lists st).length = st.hs.length := by simp [lists]
theorem good_of {st : Ch} (h : cCheck st = 0) : Good st.ns.length (lists st) ∧ st = laid st.ns.length (lists st) := by
  obtain ⟨a, b, c, d, e⟩ := check_laid h
  exact ⟨⟨a, c.1, c.2, by rw [lists_len]; exact d, by rw [lists_len]; exact e⟩, b⟩
theorem Good.check {n : Nat} {L : List (List Nat)} (h : Good n L) : cCheck (laid n L) = 0 := check_of h.vl ⟨h.n1, h.n2⟩ ⟨h.l1, h.l2⟩
theorem Vl.split {n : Nat} {L : List (List Nat)} (hv : Vl n L) {i : Nat} (hi : i < L.length) : Vl n (L.take i ++ L[i] :: L.drop (i + 1)) := by rw [← at_split hi]; exact hv
theorem nd_in {n : Nat} {L : List (List Nat)} (hv : Vl n L) {i p : Nat} (hi : i < L.length) (hp : p ∈ L[i]) : (laid n L).ns[p]? = some ⟨i, nxt L[i] p, prv (-1) L[i] p⟩ := by
  have hpn : p < n := hv.1 _ (List.getElem_mem hi) p hp
  rw [laid_get, if_pos hpn]
  have h := ndOf_at (A := L.take i) (B := L.drop (i + 1)) (l := L[i]) ((vl_get (hv.split hi)).2.2 p hp) hp
  rw [← at_split hi, take_len hi] at h
  rw [h]
theorem nd_out {n : Nat} {L : List (List Nat)} {p : Nat} (hpn : p < n) (hp : p ∉ L.flatten) : (laid n L).ns[p]? = some ⟨-1, -1, -1⟩ := by
  rw [laid_get, if_pos hpn]
  congr 1
  exact ndGo_none (fun m hm h => hp (List.mem_flatten.2 ⟨m, hm, h⟩)) 0
theorem nd_l {n : Nat} {L : List (List Nat)} (hv : Vl n L) {p : Nat} (hpn : p < n) : (p ∉ L.flatten ∧ ((laid n L).ns.getD p nd0).l = -1) ∨ ∃ i, ∃ h : i < L.length, p ∈ L[i] ∧ ((laid n L).ns.getD p nd0).l = i := by
  by_cases h : p ∈ L.flatten
  · obtain ⟨m, hm, hp⟩ := List.mem_flatten.1 h
    obtain ⟨i, hi, rfl⟩ := List.getElem_of_mem hm
    exact .inr ⟨i, hi, hp, by rw [List.getD_eq_getElem?_getD, nd_in hv hi hp]; rfl⟩
  · exact .inl ⟨h, by rw [List.getD_eq_getElem?_getD, nd_out hpn h]; rfl⟩
theorem put_at {n : Nat} {L : List (List Nat)} (hv : Vl n L) {i a : Nat} (hi : i < L.length) (ha : a ∉ L.flatten) (hn : a < n) : cPut (laid n L) i a = laid n (L.set i (L[i] ++ [a])) := by
  have h := laid_put (hv.split hi) (a := a) (by rw [← at_split hi]; exact ha) hn
  rwa [← at_split hi, take_len hi, ← set_split hi] at h
theorem cut_at {n : Nat} {L : List (List Nat)} (hv : Vl n L) {i a : Nat} {l m : List Nat} (hi : i < L.length) (e : L[i] = l ++ a :: m) : cCut (laid n L) a = laid n (L.set i (l ++ m)) := by
  have h := laid_cut (n := n) (A := L.take i) (B := L.drop (i + 1)) (l := l) (m := m) (a := a) (by rw [← e, ← at_split hi]; exact hv)
  rwa [← e, ← at_split hi, ← set_split hi] at h
theorem mem_set_flat {L : List (List Nat)} {i : Nat} (hi : i < L.length) (x : List Nat) (p : Nat) : p ∈ (L.set i x).flatten ↔ p ∈ x ∨ p ∈ (L.set i []).flatten := by
  rw [set_split hi, set_split hi]
  simp only [List.flatten_append, List.flatten_cons, List.mem_append, List.not_mem_nil, false_or, List.nil_append]
  constructor
  · rintro (h | h | h)
    · exact .inr (.inl h)
    · exact .inl h
    · exact .inr (.inr h)
  · rintro (h | h | h)
    · exact .inr (.inl h)
    · exact .inl h
    · exact .inr (.inr h)
theorem vl_perm {n : Nat} {L : List (List Nat)} {i : Nat} (hi : i < L.length) {x : List Nat} (hv : Vl n (L.set i [])) (hx : x.Nodup) (hb : ∀ p ∈ x, p < n) (hd : ∀ p ∈ x, p ∉ (L.set i []).flatten) : Vl n (L.set i x) := by
  refine ⟨fun l hl p hp => ?_, ?_⟩
  · have : p ∈ (L.set i x).flatten := List.mem_flatten.2 ⟨l, hl, hp⟩
    rcases (mem_set_flat hi x p).1 this with h | h
    · exact hb p h
    · obtain ⟨m, hm, hp⟩ := List.mem_flatten.1 h
      exact hv.1 m hm p hp
  · have h2 := hv.2
    rw [set_split hi] at h2 ⊢
    rw [set_split hi] at hd
    simp only [List.flatten_append, List.flatten_cons, List.nil_append, List.mem_append, not_or] at h2 hd ⊢
    obtain ⟨a, b, c⟩ := List.nodup_append.1 h2
    refine List.nodup_append.2 ⟨a, List.nodup_append.2 ⟨hx, b, fun p hp q hq e => (hd p hp).2 (by rw [e]; exact hq)⟩, fun p hp q hq e => ?_⟩
    rcases List.mem_append.1 hq with hq | hq
    · exact (hd q hq).1 (by rw [← e]; exact hp)
    · exact c p hp q hq e
theorem vl_clear {n : Nat} {L : List (List Nat)} (hv : Vl n L) {i : Nat} (hi : i < L.length) : Vl n (L.set i []) ∧ L[i].Nodup ∧ (∀ p ∈ L[i], p < n) ∧ ∀ p ∈ L[i], p ∉ (L.set i []).flatten := by
  have h2 := hv.2
  have e := at_split hi
  rw [e] at h2
  simp only [List.flatten_append, List.flatten_cons] at h2
  obtain ⟨a, b, c⟩ := List.nodup_append.1 h2
  obtain ⟨b1, b2, b3⟩ := List.nodup_append.1 b
  refine ⟨⟨fun l hl p hp => ?_, ?_⟩, b1, fun p hp => hv.1 _ (List.getElem_mem hi) p hp, fun p hp => ?_⟩
  · rcases List.mem_or_eq_of_mem_set hl with h | h
    · exact hv.1 l h p hp
    · rw [h] at hp; cases hp
  · rw [set_split hi]
    simp only [List.flatten_append, List.flatten_cons, List.nil_append]
    exact List.nodup_append.2 ⟨a, b2, fun p hp q hq => c p hp q (List.mem_append_right _ hq)⟩
  · rw [set_split hi]
    simp only [List.flatten_append, List.flatten_cons, List.nil_append, List.mem_append, not_or]
    exact ⟨fun h => c p h p (List.mem_append_left _ hp) rfl, fun h => b3 p hp p h rfl⟩
theorem vl_sub {n : Nat} {L : List (List Nat)} (hv : Vl n L) {i : Nat} (hi : i < L.length) {x : List Nat} (hx : x.Nodup) (hs : ∀ p ∈ x, p ∈ L[i]) : Vl n (L.set i x) := by
  obtain ⟨a, b, c, d⟩ := vl_clear hv hi
  exact vl_perm hi a hx (fun p hp => c p (hs p hp)) (fun p hp => d p (hs p hp))
theorem vl_put {n : Nat} {L : List (List Nat)} (hv : Vl n L) {i a : Nat} (hi : i < L.length) (ha : a ∉ L.flatten) (hn : a < n) : Vl n (L.set i (L[i] ++ [a])) := by
  obtain ⟨h1, h2, h3, h4⟩ := vl_clear hv hi
  have hf : ∀ p, p ∈ (L.set i []).flatten → p ∈ L.flatten := fun p hp => by
    obtain ⟨m, hm, hpm⟩ := List.mem_flatten.1 hp
    rcases List.mem_or_eq_of_mem_set hm with h | h
    · exact List.mem_flatten.2 ⟨m, h, hpm⟩
    · rw [h] at hpm; cases hpm
  refine vl_perm hi h1 ?_ ?_ ?_
  · exact List.nodup_append.2 ⟨h2, by simp, fun p hp q hq e => by
      simp at hq; subst hq; subst e
      exact ha (List.mem_flatten.2 ⟨_, List.getElem_mem hi, hp⟩)⟩
  · intro p hp
    rcases List.mem_append.1 hp with hp | hp
    · exact h3 p hp
    · simp at hp; subst hp; exact hn
  · intro p hp
    rcases List.mem_append.1 hp with hp | hp
    · exact h4 p hp
    · simp at hp; subst hp; exact fun h => ha (hf p h)
/-- a list's place is in no other one -/
theorem vl_in {n : Nat} {L : List (List Nat)} (hv : Vl n L) {i j p : Nat} (hi : i < L.length) (hj : j < L.length) (hp : p ∈ L[i]) (hq : p ∈ L[j]) : i = j := by
  by_cases e : i = j
  · exact e
  · obtain ⟨_, _, _, d⟩ := vl_clear hv hi
    refine absurd (List.mem_flatten.2 ⟨L[j], ?_, hq⟩) (d p hp)
    rw [List.mem_iff_getElem]
    exact ⟨j, by simpa using hj, by rw [List.getElem_set_ne e]⟩
theorem filter_cut {l m : List Nat} {a : Nat} (h : (l ++ a :: m).Nodup) : (l ++ a :: m).filter (fun x => x != a) = l ++ m := by
  obtain ⟨h1, h2, h3⟩ := List.nodup_append.1 h
  obtain ⟨h4, h5⟩ := List.nodup_cons.1 h2
  have e1 : l.filter (fun x => x != a) = l := List.filter_eq_self.2 (fun x hx => by
    have : x ≠ a := fun e => h3 x hx a (by simp) e
    simpa using this)
  have e2 : m.filter (fun x => x != a) = m := List.filter_eq_self.2 (fun x hx => by
    have : x ≠ a := fun e => h4 (by rw [← e]; exact hx)
    simpa using this)
  rw [List.filter_append, List.filter_cons, e1, e2]
  simp
def nth (L : List (List Nat)) (i : Nat) : List Nat := L.getD i []
theorem nth_at {L : List (List Nat)} {i : Nat} (hi : i < L.length) : nth L i = L[i] := by simp [nth, List.getD, hi]
/-- the document's answers -/
def dPush (st : Ch) (list at_ : Int) : Ch × Int :=
  if cCheck st ≠ 0 then (st, cCheck st) else if cIn list 0 ((st.hs.length : Int) - 1) = false then (st, 8) else if cIn at_ 0 ((st.ns.length : Int) - 1) = false then (st, 8) else if 0 ≤ (st.ns.getD at_.toNat nd0).l then (st, 13) else
    (laid st.ns.length ((lists st).set list.toNat (nth (lists st) list.toNat ++ [at_.toNat])), 0)
def dUnlink (st : Ch) (at_ : Int) : Ch × Int :=
  if cCheck st ≠ 0 then (st, cCheck st) else if cIn at_ 0 ((st.ns.length : Int) - 1) = false then (st, 8) else if (st.ns.getD at_.toNat nd0).l < 0 then (st, 6) else
    (laid st.ns.length ((lists st).set (st.ns.getD at_.toNat nd0).l.toNat ((nth (lists st) (st.ns.getD at_.toNat nd0).l.toNat).filter (fun x => x != at_.toNat))), 0)
def dTurn (st : Ch) (list : Int) : Ch :=
  if cCheck st ≠ 0 then st else if cIn list 0 ((st.hs.length : Int) - 1) = false then st else if st.hs.getD list.toNat (-1) < 0 then st else
    laid st.ns.length ((lists st).set list.toNat ((nth (lists st) list.toNat).tail ++ (nth (lists st) list.toNat).take 1))
def dSplice (st : Ch) (i j : Int) : Ch × Int :=
  if cCheck st ≠ 0 then (st, cCheck st) else if cIn i 0 ((st.hs.length : Int) - 1) = false then (st, 8) else if cIn j 0 ((st.hs.length : Int) - 1) = false then (st, 8) else if i = j then (st, 2) else
    (laid st.ns.length (((lists st).set j.toNat (nth (lists st) j.toNat ++ nth (lists st) i.toNat)).set i.toNat []), 0)
theorem push_eq (st : Ch) (list at_ : Int) : cPush st list at_ = dPush st list at_ := by
  unfold cPush dPush
  by_cases hc : cCheck st = 0
  · obtain ⟨hG, e⟩ := good_of hc
    have hc' : ¬ (cCheck st ≠ 0) := by simp [hc]
    rw [if_neg hc', if_neg hc']
    by_cases h1 : cIn list 0 ((st.hs.length : Int) - 1) = false
    · rw [if_pos h1, if_pos h1]
    rw [if_neg h1, if_neg h1]
    by_cases h2 : cIn at_ 0 ((st.ns.length : Int) - 1) = false
    · rw [if_pos h2, if_pos h2]
    rw [if_neg h2, if_neg h2]
    have b1 := cIn_t (by simpa using h1)
    have b2 := cIn_t (by simpa using h2)
    have hn : at_.toNat < st.ns.length := by omega
    have hi : list.toNat < (lists st).length := by rw [lists_len]; omega
    have hl := nd_l hG.vl hn
    rw [← e] at hl
    rcases hl with ⟨h3, h4⟩ | ⟨k, _, _, h4⟩
    · rw [if_neg (fun h => h h4), if_neg (by omega)]
      congr 1
      have := put_at hG.vl hi h3 hn
      rw [← e] at this
      rw [this, nth_at hi]
    · rw [if_pos (by omega), if_pos (by omega)]
  · rw [if_pos hc, if_pos hc]
theorem unlink_eq (st : Ch) (at_ : Int) : cUnlink st at_ = dUnlink st at_ := by
  unfold cUnlink dUnlink
  by_cases hc : cCheck st = 0
  · obtain ⟨hG, e⟩ := good_of hc
    have hc' : ¬ (cCheck st ≠ 0) := by simp [hc]
    rw [if_neg hc', if_neg hc']
    by_cases h2 : cIn at_ 0 ((st.ns.length : Int) - 1) = false
    · rw [if_pos h2, if_pos h2]
    rw [if_neg h2, if_neg h2]
    have b2 := cIn_t (by simpa using h2)
    have hn : at_.toNat < st.ns.length := by omega
    have hl := nd_l hG.vl hn
    rw [← e] at hl
    rcases hl with ⟨h3, h4⟩ | ⟨k, hk, hm, h4⟩
    · rw [if_pos h4, if_pos (by omega)]
    · rw [if_neg (by omega), if_neg (by omega)]
      congr 1
      rw [h4, Int.toNat_natCast, nth_at hk]
      obtain ⟨l, m, e2⟩ := List.append_of_mem hm
      have hnd := (vl_clear hG.vl hk).2.1
      have := cut_at hG.vl hk e2
      rw [← e] at this
      rw [this, e2, filter_cut (by rw [← e2]; exact hnd)]
  · rw [if_pos hc, if_pos hc]
/-! The first place of a list goes behind a list. -/
def mv (L : List (List Nat)) (i j : Nat) : List (List Nat) := match nth L i with
  | [] => L
  | f :: m => (L.set i m).set j (nth (L.set i m) j ++ [f])
theorem mv_len (L : List (List Nat)) (i j : Nat) : (mv L i j).length = L.length := by unfold mv; split <;> simp
theorem mv_cut {n : Nat} {L : List (List Nat)} (hv : Vl n L) {i f : Nat} {m : List Nat} (hi : i < L.length) (e : nth L i = f :: m) :
    f < n ∧ (laid n L).ns[f]? = some ⟨i, hd m, -1⟩ ∧ cCut (laid n L) f = laid n (L.set i m) ∧ Vl n (L.set i m) ∧ f ∉ (L.set i m).flatten ∧ ∀ x ∈ m, x < n := by
  rw [nth_at hi] at e
  obtain ⟨h1, h2, h3, h4⟩ := vl_clear hv hi
  have hf : f ∈ L[i] := by rw [e]; simp
  have hnd := h2
  rw [e] at hnd
  obtain ⟨n1, n2⟩ := List.nodup_cons.1 hnd
  refine ⟨h3 f hf, ?_, cut_at (l := []) hv hi e, vl_sub hv hi n2 (fun p hp => by rw [e]; simp [hp]), ?_, fun x hx => h3 x (by rw [e]; simp [hx])⟩
  · rw [nd_in hv hi hf, e]
    congr 2
    · cases m <;> simp [nxt, hd]
    · simp [prv]
  · intro h
    rcases (mem_set_flat hi m f).1 h with h | h
    · exact n1 h
    · exact h4 f hf h
theorem mv_put {n : Nat} {L : List (List Nat)} (hv : Vl n L) {i j f : Nat} {m : List Nat} (hi : i < L.length) (hj : j < L.length) (e : nth L i = f :: m) :
    cPut (laid n (L.set i m)) j f = laid n (mv L i j) ∧ Vl n (mv L i j) := by
  obtain ⟨h1, h2, h3, h4, h5, _⟩ := mv_cut hv hi e
  have hj' : j < (L.set i m).length := by simpa using hj
  have em : mv L i j = (L.set i m).set j ((L.set i m)[j] ++ [f]) := by
    unfold mv; rw [e]; dsimp only; rw [nth_at hj']
  rw [em]
  exact ⟨put_at h4 hj' h5 h1, vl_put h4 hj' h5 h1⟩
/-- list i behind list j -/
def fin (L : List (List Nat)) (i j : Nat) : List (List Nat) := (L.set j (nth L j ++ nth L i)).set i []
theorem nth_set {L : List (List Nat)} {i : Nat} (hi : i < L.length) (x : List Nat) (k : Nat) : nth (L.set i x) k = if i = k then x else nth L k := by
  unfold nth
  rw [List.getD_eq_getElem?_getD, List.getD_eq_getElem?_getD, List.getElem?_set]
  by_cases e : i = k
  · rw [if_pos e, if_pos e, if_pos hi]; rfl
  · rw [if_neg e, if_neg e]
theorem nth_self {L : List (List Nat)} {i : Nat} {x : List Nat} (hi : i < L.length) (h : nth L i = x) : L.set i x = L := by
  subst h
  rw [nth_at hi, List.set_getElem_self]
theorem fin_mv {L : List (List Nat)} {i j f : Nat} {m : List Nat} (hi : i < L.length) (hj : j < L.length) (hne : i ≠ j) (e : nth L i = f :: m) : fin (mv L i j) i j = fin L i j := by
  have em : mv L i j = (L.set i m).set j (nth L j ++ [f]) := by unfold mv; rw [e]; dsimp only; rw [nth_set hi, if_neg hne]
  unfold fin
  rw [em, nth_set (by simpa using hj), if_pos rfl, nth_set (by simpa using hj), if_neg (Ne.symm hne), nth_set hi, if_pos rfl, List.set_set, e]
  rw [List.set_comm _ _ (Ne.symm hne), List.set_set, List.set_comm _ _ hne]
  simp
theorem fin_end {L : List (List Nat)} {i j : Nat} (hi : i < L.length) (hj : j < L.length) (hne : i ≠ j) (e : nth L i = []) : fin L i j = L := by
  unfold fin
  rw [e, List.append_nil, nth_self hj rfl, nth_self hi e]
theorem mv_less {L : List (List Nat)} {i j f : Nat} {m : List Nat} (hi : i < L.length) (hj : j < L.length) (hne : i ≠ j) (e : nth L i = f :: m) : (nth (mv L i j) i).length = m.length := by
  have em : mv L i j = (L.set i m).set j (nth L j ++ [f]) := by unfold mv; rw [e]; dsimp only; rw [nth_set hi, if_neg hne]
  rw [em, nth_set (by simpa using hj), if_neg (Ne.symm hne), nth_set hi, if_pos rfl]
theorem hs_at {n : Nat} {L : List (List Nat)} {i : Nat} (hi : i < L.length) : (laid n L).hs[i]? = some (hd (nth L i)) := by
  simp [laid, hi, nth_at hi]
/-- chain.Turn's own answer -/
def cTurn (st : Ch) (list : Int) : Ch :=
  if cCheck st ≠ 0 then st else if cIn list 0 ((st.hs.length : Int) - 1) = false then st else if st.hs.getD list.toNat (-1) = -1 then st else
    cPut (cCut st (st.hs.getD list.toNat (-1)).toNat) list.toNat (st.hs.getD list.toNat (-1)).toNat
theorem turn_eq (st : Ch) (list : Int) : cTurn st list = dTurn st list := by
  unfold cTurn dTurn
  by_cases hc : cCheck st = 0
  · obtain ⟨hG, e⟩ := good_of hc
    have hc' : ¬ (cCheck st ≠ 0) := by simp [hc]
    rw [if_neg hc', if_neg hc']
    by_cases h1 : cIn list 0 ((st.hs.length : Int) - 1) = false
    · rw [if_pos h1, if_pos h1]
    rw [if_neg h1, if_neg h1]
    have b1 := cIn_t (by simpa using h1)
    have hi : list.toNat < (lists st).length := by rw [lists_len]; omega
    have hh : st.hs.getD list.toNat (-1) = hd (nth (lists st) list.toNat) := by
      have := hs_at (n := st.ns.length) hi
      rw [← e] at this
      rw [List.getD_eq_getElem?_getD, this]; rfl
    rw [hh]
    cases hL : nth (lists st) list.toNat with
    | nil => simp [hd]
    | cons f m =>
      have e1 : hd (f :: m) = (f : Int) := rfl
      rw [e1, if_neg (by omega), if_neg (by omega), Int.toNat_natCast]
      obtain ⟨_, _, h3, _⟩ := mv_cut hG.vl hi hL
      rw [← e] at h3
      obtain ⟨h4, _⟩ := mv_put hG.vl hi hi hL
      rw [h3, h4]
      congr 1
      unfold mv
      rw [hL]
      dsimp only
      rw [nth_set hi, if_pos rfl, List.set_set]
      simp
  · rw [if_pos hc, if_pos hc]
end Go.Proofs.Ythicpjfdljgfpaa
