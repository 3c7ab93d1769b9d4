/- The plain law of DrrFair: a round of the law. -/
import Derived.Test.YteblbleehnkcmaaRef28s
namespace Go.Proofs.Yteblbleehnkcmaa
open Go.RowKit Go.Sort
set_option linter.unusedSimpArgs false
set_option linter.unusedVariables false

/-- the weight of a flow -/
def wtN (wts : List Int) (i : Nat) : Int := 1 + wts.getD i 0 % 8
theorem wtN_in (wts : List Int) (i : Nat) : 1 ≤ wtN wts i ∧ wtN wts i ≤ 8 := by unfold wtN; omega
/-- the flows that joined -/
def fjL (wts : List Int) (k : Nat) : List Fl := (List.range k).map fun (i : Nat) => ⟨(i : Int), wtN wts i, 0⟩
theorem fj_len (wts : List Int) (k : Nat) : (fjL wts k).length = k := by unfold fjL; simp
theorem fj_snoc (wts : List Int) (k : Nat) : fjL wts (k + 1) = fjL wts k ++ [⟨(k : Int), wtN wts k, 0⟩] := by
  unfold fjL; rw [List.range_succ, List.map_append]; rfl
theorem fj_mem {wts : List Int} {k : Nat} {f : Fl} (h : f ∈ fjL wts k) : ∃ i : Nat, i < k ∧ f = ⟨(i : Int), wtN wts i, 0⟩ := by
  unfold fjL at h
  obtain ⟨i, hi, e⟩ := List.mem_map.1 h
  exact ⟨i, List.mem_range.1 hi, e.symm⟩
theorem fj_at (wts : List Int) (k i : Nat) (h : i < (fjL wts k).length) : (fjL wts k)[i] = ⟨(i : Int), wtN wts i, 0⟩ := by
  have e : (fjL wts k)[i]? = some ⟨(i : Int), wtN wts i, 0⟩ := by
    rw [fj_len] at h
    unfold fjL; rw [List.getElem?_map, List.getElem?_range h]; rfl
  rw [List.getElem?_eq_getElem h] at e
  exact Option.some.inj e
theorem fj_once (wts : List Int) (k : Nat) : dOnce (fjL wts k) = true := by
  apply dOnce_end
  intro i hi
  rw [fj_at]
  unfold dFind
  refine idxI_at hi ?_ (by rw [fj_at]; simp)
  intro x hx
  rw [List.mem_take_iff_getElem] at hx
  obtain ⟨j, hj, rfl⟩ := hx
  rw [fj_at]
  simp
  omega
theorem fj_none (wts : List Int) (k : Nat) : dFind (fjL wts k) (k : Int) = -1 := by
  unfold dFind
  refine idxI_none ?_
  intro x hx
  obtain ⟨i, hi, rfl⟩ := fj_mem hx
  simp
  omega
theorem fj_wrong (wts : List Int) (k : Nat) (hk : k ≤ 16) : (fjL wts k).any fWrong = false := by
  rw [List.any_eq_false]
  intro x hx
  obtain ⟨i, hi, rfl⟩ := fj_mem hx
  have := wtN_in wts i
  simp [fWrong, dIn]
  omega
theorem fj_check (wts : List Int) (k : Nat) (hk : k ≤ 16) : dCheck (fjL wts k) 0 false = 0 := by
  unfold dCheck
  rw [fj_len, if_neg (by omega), fj_wrong wts k hk, fj_once]
  have hp : dPlace k 0 false = true := by unfold dPlace dIn; simp; omega
  rw [hp]
  simp
theorem fj_join (wts : List Int) (k : Nat) (hk : k < 16) : dJoin (fjL wts k) 0 false (k : Int) (wtN wts k) = (fjL wts (k + 1), 0) := by
  have h1 : fWrong ⟨(k : Int), wtN wts k, 0⟩ = false := by
    have := wtN_in wts k
    simp [fWrong, dIn]
    omega
  unfold dJoin
  rw [if_neg (by rw [fj_check wts k (by omega)]; simp), if_neg (by rw [h1]; simp), if_neg (by rw [fj_none]; simp), if_neg (by rw [fj_len]; omega), fj_snoc]
def idsN (n : Nat) : List Int := (List.range n).map fun (i : Nat) => (i : Int)
def wtsN (wts : List Int) (n : Nat) : List Int := (List.range n).map fun (i : Nat) => wtN wts i
theorem fj_ids (wts : List Int) (k : Nat) : (fjL wts k).map Fl.id = idsN k := by unfold fjL idsN; simp
theorem fj_wts (wts : List Int) (k : Nat) : (fjL wts k).map Fl.wt = wtsN wts k := by unfold fjL wtsN; simp
/-- what holds ahead of a round -/
structure FrS (wts : List Int) (n k : Nat) (fl : List Fl) (at_ : Int) (mid : Bool) (P S : List Int) : Prop where
  check : dCheck fl at_ mid = 0
  ids : fl.map Fl.id = idsN n
  wt : fl.map Fl.wt = wtsN wts n
  pl : P.length = 6
  sl : S.length = 6
  pos : ∀ j, 0 ≤ P.getD j 0 ∧ P.getD j 0 ≤ 64 * (k : Int)
  sum : ∀ j, 0 ≤ S.getD j 0 ∧ S.getD j 0 ≤ 2047 * (k : Int)
  fair : Fair 256 fl at_.toNat mid (fun j => S.getD j 0)
theorem FrS.len {wts : List Int} {n k : Nat} {fl : List Fl} {at_ : Int} {mid : Bool} {P S : List Int} (h : FrS wts n k fl at_ mid P S) : fl.length = n := by
  have := congrArg List.length h.ids
  simpa [idsN] using this
theorem zeros_getD (j : Nat) : ([0, 0, 0, 0, 0, 0] : List Int).getD j 0 = 0 := by
  rcases j with _ | _ | _ | _ | _ | _ | j <;> simp
theorem FrS.begin (wts : List Int) (n : Nat) (hn : n ≤ 16) : FrS wts n 0 (fjL wts n) 0 false [0, 0, 0, 0, 0, 0] [0, 0, 0, 0, 0, 0] := by
  refine ⟨fj_check wts n hn, fj_ids _ _, fj_wts _ _, rfl, rfl, fun j => by rw [zeros_getD]; omega, fun j => by rw [zeros_getD]; omega, ?_⟩
  obtain ⟨r, hr⟩ := Fair.begin 256 (fjL wts n) (fun f hf => by
    obtain ⟨i, _, rfl⟩ := fj_mem hf
    exact ⟨rfl, (wtN_in wts i).1⟩) (by omega)
  refine ⟨r, fun j h => ?_⟩
  have h1 := hr j h
  show _ ∧ _ ∧ _ ∧ List.getD _ _ _ + _ = _
  rw [zeros_getD]
  exact h1
/-- the loads of a round -/
def LdOk (sizes P : List Int) (k : Nat) (ls : List Ld) : Prop := ls.length = k ∧ ∀ j (h : j < ls.length), ls[j].id = (j : Int) ∧ ls[j].xs = nxL sizes ((P.getD j 0).toNat + j) 64
theorem LdOk.snoc {sizes P : List Int} {k : Nat} {ls : List Ld} (h : LdOk sizes P k ls) (A : Option Addr) (c : Nat) : LdOk sizes P (k + 1) (ls ++ [⟨(k : Int), A, c, nxL sizes ((P.getD k 0).toNat + k) 64⟩]) := by
  obtain ⟨h1, h2⟩ := h
  refine ⟨by simp [h1], fun j hj => ?_⟩
  rw [List.length_append, List.length_singleton] at hj
  by_cases e : j < ls.length
  · rw [List.getElem_append_left e]; exact h2 j e
  · have e2 : j = k := by omega
    subst e2
    rw [List.getElem_append_right (by omega)]
    simp [h1]
theorem LdOk.wait {sizes P : List Int} {k : Nat} {ls : List Ld} (h : LdOk sizes P k ls) (j : Nat) (hj : j < ls.length) : dWait ls (j : Int) = ls[j] := by
  have h1 := idxI_at (p := fun f : Ld => f.id == (j : Int)) hj (by
    intro x hx
    rw [List.mem_take_iff_getElem] at hx
    obtain ⟨i, hi, rfl⟩ := hx
    rw [(h.2 i (by omega)).1]
    simp
    omega) (by rw [(h.2 j hj).1]; simp)
  rcases dWait_cases ls (j : Int) with ⟨e, _⟩ | ⟨i, hi, e, e2⟩
  · rw [h1] at e; omega
  · rw [h1] at e
    have : j = i := by omega
    subst this; exact e2
theorem LdOk.xs {sizes P : List Int} {k : Nat} {ls : List Ld} (h : LdOk sizes P k ls) : ∀ x ∈ ls, x.xs.length = 64 ∧ ∀ n ∈ x.xs, 32 ≤ n ∧ n ≤ 128 := by
  intro x hx
  obtain ⟨j, hj, rfl⟩ := List.getElem_of_mem hx
  rw [(h.2 j hj).2]
  exact ⟨nxL_len _ _ _, nxL_in⟩
theorem LdOk.full {sizes P : List Int} {k : Nat} {ls : List Ld} (h : LdOk sizes P k ls) : Full ls (idsN k) := by
  intro id hid
  unfold idsN at hid
  obtain ⟨j, hj, rfl⟩ := List.mem_map.1 hid
  have hj := List.mem_range.1 hj
  rw [h.wait j (by rw [h.1]; exact hj)]
  exact h.xs _ (List.getElem_mem _)
theorem LdOk.may {sizes P : List Int} {k : Nat} {ls : List Ld} (h : LdOk sizes P k ls) (hk : k ≤ 64) (t : Int) (ht : 0 ≤ t ∧ t ≤ 2047) : dMay 256 t ls = 0 := by
  have h1 : dBad ls = false := by
    unfold dBad
    rw [List.any_eq_false]
    intro x hx
    rw [Bool.not_eq_true, List.any_eq_false]
    intro n hn
    have := (h.xs x hx).2 n hn
    simp [dIn]
    omega
  have h2 : dBig ls = false := by
    unfold dBig
    rw [List.any_eq_false]
    intro x hx
    have := (h.xs x hx).1
    simp
    omega
  have h3 := h.1
  unfold dMay
  rw [h1, h2, if_neg (by simp), if_neg (by simp [dIn]; omega), if_neg (by simp; omega)]
/-- how a round goes on, so many flows along -/
def Adds (n : Nat) (m : Nat) (P : List Int) (g : Nat → Int) (P' : List Int) : Prop := P'.length = 6 ∧ ∀ j, P'.getD j 0 = P.getD j 0 + if j < m then g j else 0
theorem Adds.zero {n : Nat} {P : List Int} {g : Nat → Int} (h : P.length = 6) : Adds n 0 P g P := ⟨h, fun j => by simp⟩
theorem Adds.next {n m : Nat} {P P' : List Int} {g : Nat → Int} (h : Adds n m P g P') (hm : m < 6) : Adds n (m + 1) P g (P'.set m (P'.getD m 0 + g m)) := by
  obtain ⟨h1, h2⟩ := h
  refine ⟨by simp [h1], fun j => ?_⟩
  by_cases e : j = m
  · subst e
    have := h2 j
    rw [if_neg (by omega)] at this
    rw [if_pos (by omega), List.getD_eq_getElem?_getD, List.getElem?_set_self (by omega)]
    simp only [Option.getD_some]
    omega
  · rw [List.getD_eq_getElem?_getD, List.getElem?_set_ne (by omega), ← List.getD_eq_getElem?_getD, h2 j]
    by_cases e2 : j < m
    · rw [if_pos e2, if_pos (by omega)]
    · rw [if_neg e2, if_neg (by omega)]
theorem FrS.serve {wts sizes : List Int} {n k : Nat} {fl : List Fl} {at_ : Int} {mid : Bool} {P S : List Int} {ls : List Ld} {t : Int} (h : FrS wts n k fl at_ mid P S) (hn : n ≤ 16) (hl : LdOk sizes P n ls) (ht : 0 ≤ t ∧ t ≤ 2047) : Fairs ls fl t (fun j => S.getD j 0) (dServe fl at_ mid 256 t ls) :=
  dServe_fair _ h.check (hl.may (by omega) t ht) ht.2 (by rw [h.ids]; exact hl.full) h.fair
theorem FrS.next {wts sizes : List Int} {n k : Nat} {fl : List Fl} {at_ : Int} {mid : Bool} {P S P' S' : List Int} {ls : List Ld} {t : Int} {R : SR} (h : FrS wts n k fl at_ mid P S) (hn : n ≤ 6) (ht : 0 ≤ t ∧ t ≤ 2047) (hR : Fairs ls fl t (fun j => S.getD j 0) R)
    (hP : Adds n n P (fun j => R.went.getD j 0) P') (hS : Adds n n S (fun j => gone ls R.fl R.went j) S') : FrS wts n (k + 1) R.fl R.at_ R.mid P' S' := by
  have hl := h.len
  refine ⟨hR.check, hR.ids.trans h.ids, hR.wts.trans h.wt, hP.1, hS.1, fun j => ?_, fun j => ?_, ?_⟩
  · have h1 := h.pos j
    rw [hP.2 j]
    by_cases e : j < n
    · have hj : j < R.went.length := by have := hR.went; omega
      have := hR.each j hj
      rw [if_pos e]
      dsimp only
      rw [getD_at' _ _ hj]
      push_cast
      omega
    · rw [if_neg e]; push_cast; omega
  · have h1 := h.sum j
    rw [hS.2 j]
    by_cases e : j < n
    · have := hR.sent j (by omega)
      rw [if_pos e]
      push_cast
      omega
    · rw [if_neg e]; push_cast; omega
  · obtain ⟨r, hr⟩ := hR.fair
    refine ⟨r, fun j hj => ?_⟩
    have := hr j hj
    have e : S'.getD j 0 = S.getD j 0 + gone ls R.fl R.went j := by
      rw [hS.2 j, if_pos (by have := hR.fl; omega)]
    show _ ∧ _ ∧ _ ∧ S'.getD j 0 + _ = _
    rw [e]
    exact this
theorem FrS.near {wts : List Int} {n k : Nat} {fl : List Fl} {at_ : Int} {mid : Bool} {P S : List Int} (h : FrS wts n k fl at_ mid P S) (hk : k ≤ 31) (i j : Nat) (hi : i < n) (hj : j < n) : dNear 256 (S.getD i 0) (wtN wts i) (S.getD j 0) (wtN wts j) = true := by
  have hl := h.len
  have hwt : ∀ i (hi : i < fl.length), fl[i].wt = wtN wts i := fun i hi => by
    have e1 : (fl.map Fl.wt)[i]? = some fl[i].wt := by simp [hi]
    rw [h.wt] at e1
    unfold wtsN at e1
    rw [List.getElem?_map, List.getElem?_range (by omega)] at e1
    simpa using e1.symm
  have := Fair.near h.fair (fun f hf => by
    obtain ⟨i, hi, rfl⟩ := List.getElem_of_mem hf
    rw [hwt i hi]; exact wtN_in wts i) (fun m _ => by have := h.sum m; omega) i j (by omega) (by omega)
  rw [hwt i (by omega), hwt j (by omega)] at this
  exact this
theorem costIn_sum {xs : List Int} {n : Int} (hx : ∀ x ∈ xs, 0 ≤ x ∧ x ≤ 128) (hn : n + 128 * (xs.length : Int) ≤ 1099511627776) : costIn n xs = n + xs.sum := by
  induction xs generalizing n with
  | nil => unfold costIn; simp
  | cons a r ih =>
    have ha := hx a (List.mem_cons_self ..)
    rw [List.length_cons] at hn
    push_cast at hn
    have e : costOne n a = n + a := by unfold costOne; omega
    show costIn (costOne n a) r = _
    rw [e, ih (fun x hx' => hx x (List.mem_cons_of_mem _ hx')) (by omega), List.sum_cons]
    omega
theorem dCost_one {x : Ld} {g : Int} (hx : ∀ n ∈ x.xs, 0 ≤ n ∧ n ≤ 128) (hl : x.xs.length ≤ 1000) : dCost [x] [g] = (x.xs.take g.toNat).sum := by
  have e : dCost [x] [g] = costIn 0 (x.xs.take g.toNat) := rfl
  rw [e, costIn_sum (fun n hn => hx n (List.mem_of_mem_take hn)) (by rw [List.length_take]; omega)]
  omega
theorem gone_of {ls : List Ld} {sizes P : List Int} {n : Nat} {fl : List Fl} {went : List Int} (hl : LdOk sizes P n ls) (hi : fl.map Fl.id = idsN n) (j : Nat) (hj : j < ls.length) (hg : j < went.length) : gone ls fl went j = dCost [ls[j]] [went[j]] := by
  have hf : j < fl.length := by have := congrArg List.length hi; simp [idsN] at this; have := hl.1; omega
  have e1 : (fl.map Fl.id)[j]? = some fl[j].id := by simp [hf]
  rw [hi] at e1
  unfold idsN at e1
  rw [List.getElem?_map, List.getElem?_range (by have := hl.1; omega)] at e1
  have e2 : fl[j].id = (j : Int) := by simpa using e1.symm
  have hx := hl.xs _ (List.getElem_mem hj)
  rw [dCost_one (fun n hn => by have := hx.2 n hn; omega) (by omega)]
  unfold gone
  rw [getD_at' _ _ hf, getD_at' _ _ hg, e2, hl.wait j hj]
end Go.Proofs.Yteblbleehnkcmaa
