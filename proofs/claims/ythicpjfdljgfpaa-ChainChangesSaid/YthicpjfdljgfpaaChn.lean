/- Lists by links, the plain law: what a place that is put, or taken out, leaves. No program in sight. -/
import Derived.Test.YthicpjfdljgfpaaKit
namespace Go.Proofs.Ythicpjfdljgfpaa
set_option linter.unusedSimpArgs false
set_option linter.unusedVariables false

/-- a place's links -/
structure Nd where
  l : Int
  n : Int
  p : Int
deriving DecidableEq
structure Ch where
  ns : List Nd
  hs : List Int
  ts : List Int
deriving DecidableEq
def nxt : List Nat → Nat → Int
  | [], _ => -1
  | [_], _ => -1
  | a :: b :: r, p => if a = p then (b : Int) else nxt (b :: r) p
def prv (prev : Int) : List Nat → Nat → Int
  | [], _ => -1
  | a :: r, p => if a = p then prev else prv (a : Int) r p
def hd : List Nat → Int
  | [] => -1
  | a :: _ => a
def lst : List Nat → Int
  | [] => -1
  | [a] => a
  | _ :: b :: r => lst (b :: r)
def ndGo (p : Nat) : Nat → List (List Nat) → Nd
  | _, [] => ⟨-1, -1, -1⟩
  | i, l :: r => if p ∈ l then ⟨i, nxt l p, prv (-1) l p⟩ else ndGo p (i + 1) r
def ndOf (L : List (List Nat)) (p : Nat) : Nd := ndGo p 0 L
def laid (n : Nat) (L : List (List Nat)) : Ch := ⟨(List.range n).map (ndOf L), L.map hd, L.map lst⟩
def Vl (n : Nat) (L : List (List Nat)) : Prop := (∀ l ∈ L, ∀ p ∈ l, p < n) ∧ L.flatten.Nodup

theorem lst_snoc (l : List Nat) (a : Nat) : lst (l ++ [a]) = a := by
  induction l with
  | nil => rfl
  | cons x r ih => cases r with
    | nil => rfl
    | cons y r => simpa [lst] using ih
theorem lst_mem {l : List Nat} (h : l ≠ []) : ∃ a ∈ l, lst l = (a : Int) := by
  induction l with
  | nil => exact absurd rfl h
  | cons x r ih => cases r with
    | nil => exact ⟨x, by simp, rfl⟩
    | cons y r => obtain ⟨a, h1, h2⟩ := ih (by simp); exact ⟨a, List.mem_cons_of_mem _ h1, h2⟩
theorem hd_snoc (l : List Nat) (a : Nat) : hd (l ++ [a]) = if l = [] then (a : Int) else hd l := by cases l <;> simp [hd]
theorem nxt_snoc_last {l : List Nat} {a : Nat} (ha : a ∉ l) : nxt (l ++ [a]) a = -1 := by
  induction l with
  | nil => rfl
  | cons x r ih =>
    have hx : x ≠ a := fun e => ha (by simp [e])
    have hr : a ∉ r := fun e => ha (List.mem_cons_of_mem _ e)
    cases r with
    | nil => simp [nxt, hx]
    | cons y r => simp only [List.cons_append, nxt, hx, if_false]; exact ih hr
theorem nxt_snoc {l : List Nat} {a p : Nat} (hn : l.Nodup) (hp : p ∈ l) : nxt (l ++ [a]) p = if lst l = (p : Int) then (a : Int) else nxt l p := by
  induction l with
  | nil => cases hp
  | cons x r ih =>
    cases r with
    | nil =>
      simp at hp; subst hp
      simp [nxt, lst]
    | cons y r =>
      by_cases hx : x = p
      · subst hx
        have hne : lst (x :: y :: r) ≠ (x : Int) := by
          obtain ⟨b, hb, e⟩ := lst_mem (l := y :: r) (by simp)
          show lst (y :: r) ≠ _
          rw [e]
          intro h
          have : b = x := by omega
          subst this
          exact (List.nodup_cons.1 hn).1 hb
        rw [if_neg hne]
        simp [nxt]
      · have hp' : p ∈ y :: r := by simpa [Ne.symm hx] using hp
        have := ih (List.nodup_cons.1 hn).2 hp'
        simp only [List.cons_append, nxt, hx, if_false]
        exact this
theorem prv_snoc_last {l : List Nat} {a : Nat} (ha : a ∉ l) (q : Int) : prv q (l ++ [a]) a = if l = [] then q else lst l := by
  induction l generalizing q with
  | nil => simp [prv]
  | cons x r ih =>
    have hx : x ≠ a := fun e => ha (by simp [e])
    have hr : a ∉ r := fun e => ha (List.mem_cons_of_mem _ e)
    simp only [List.cons_append, prv, hx, if_false]
    rw [ih hr]
    cases r <;> simp [lst]
theorem prv_snoc {l : List Nat} {a p : Nat} (hp : p ∈ l) (q : Int) : prv q (l ++ [a]) p = prv q l p := by
  induction l generalizing q with
  | nil => cases hp
  | cons x r ih =>
    by_cases hx : x = p
    · simp [prv, hx]
    · have hp' : p ∈ r := by simpa [Ne.symm hx] using hp
      simp only [List.cons_append, prv, hx, if_false]
      exact ih hp' _
theorem nxt_app_l {l : List Nat} (m : List Nat) {p : Nat} (hn : l.Nodup) (hp : p ∈ l) : nxt (l ++ m) p = if lst l = (p : Int) then hd m else nxt l p := by
  induction l with
  | nil => cases hp
  | cons x r ih =>
    cases r with
    | nil =>
      simp at hp; subst hp
      cases m <;> simp [nxt, lst, hd]
    | cons y r =>
      by_cases hx : x = p
      · subst hx
        have hne : lst (x :: y :: r) ≠ (x : Int) := by
          obtain ⟨b, hb, e⟩ := lst_mem (l := y :: r) (by simp)
          show lst (y :: r) ≠ _
          rw [e]
          intro h
          have : b = x := by omega
          subst this
          exact (List.nodup_cons.1 hn).1 hb
        rw [if_neg hne]
        simp [nxt]
      · have hp' : p ∈ y :: r := by simpa [Ne.symm hx] using hp
        have := ih (List.nodup_cons.1 hn).2 hp'
        simp only [List.cons_append, nxt, hx, if_false]
        exact this
theorem nxt_app_r {l : List Nat} (m : List Nat) {p : Nat} (hp : p ∉ l) : nxt (l ++ m) p = nxt m p := by
  induction l with
  | nil => rfl
  | cons x r ih =>
    have hx : x ≠ p := fun e => hp (by simp [e])
    have hr : p ∉ r := fun e => hp (List.mem_cons_of_mem _ e)
    have := ih hr
    cases r with
    | nil => cases m <;> simp [nxt, hx]
    | cons y r => simp only [List.cons_append, nxt, hx, if_false]; exact this
theorem prv_app_l {l : List Nat} (m : List Nat) {p : Nat} (hp : p ∈ l) (q : Int) : prv q (l ++ m) p = prv q l p := by
  induction l generalizing q with
  | nil => cases hp
  | cons x r ih =>
    by_cases hx : x = p
    · simp [prv, hx]
    · have hp' : p ∈ r := by simpa [Ne.symm hx] using hp
      simp only [List.cons_append, prv, hx, if_false]
      exact ih hp' _
theorem prv_app_r {l : List Nat} (m : List Nat) {p : Nat} (hp : p ∉ l) (q : Int) : prv q (l ++ m) p = prv (if l = [] then q else lst l) m p := by
  induction l generalizing q with
  | nil => simp
  | cons x r ih =>
    have hx : x ≠ p := fun e => hp (by simp [e])
    have hr : p ∉ r := fun e => hp (List.mem_cons_of_mem _ e)
    simp only [List.cons_append, prv, hx, if_false]
    rw [ih hr]
    cases r <;> simp [lst]
theorem prv_app_r1 {l : List Nat} (m : List Nat) {p : Nat} (hp : p ∉ l) : prv (-1) (l ++ m) p = prv (lst l) m p := by
  rw [prv_app_r m hp]; cases l <;> simp [lst]
theorem prv_hd {l : List Nat} {p : Nat} (hp : p ∈ l) (x y : Int) : prv x l p = if hd l = (p : Int) then x else prv y l p := by
  cases l with
  | nil => cases hp
  | cons a r =>
    by_cases h : a = p
    · subst h; simp [prv, hd]
    · have : ¬ ((a : Int) = (p : Int)) := by omega
      simp [prv, hd, h, this]
theorem hd_mem {l : List Nat} (h : l ≠ []) : ∃ a ∈ l, hd l = (a : Int) := by
  cases l with
  | nil => exact absurd rfl h
  | cons a r => exact ⟨a, by simp, rfl⟩
theorem hd_app (l m : List Nat) : hd (l ++ m) = if l = [] then hd m else hd l := by cases l <;> simp [hd]
theorem lst_app (l m : List Nat) : lst (l ++ m) = if m = [] then lst l else lst m := by
  induction l with
  | nil => cases m <;> simp [lst]
  | cons x r ih =>
    cases r with
    | nil => cases m <;> simp [lst]
    | cons y r => simpa [lst] using ih
theorem ndGo_skip {A : List (List Nat)} {p : Nat} (h : ∀ m ∈ A, p ∉ m) (B : List (List Nat)) : ∀ i, ndGo p i (A ++ B) = ndGo p (i + A.length) B := by
  induction A with
  | nil => intro i; rfl
  | cons x r ih =>
    intro i
    have h1 : p ∉ x := h x (by simp)
    simp only [List.cons_append, ndGo, h1, if_false]
    rw [ih (fun m hm => h m (by simp [hm]))]
    rw [List.length_cons]; congr 1; omega
theorem ndGo_pre {A : List (List Nat)} {p : Nat} (h : ∃ m ∈ A, p ∈ m) (B : List (List Nat)) : ∀ i, ndGo p i (A ++ B) = ndGo p i A := by
  induction A with
  | nil => obtain ⟨m, hm, _⟩ := h; cases hm
  | cons x r ih =>
    intro i
    by_cases h1 : p ∈ x
    · simp [ndGo, h1]
    · simp only [List.cons_append, ndGo, h1, if_false]
      obtain ⟨m, hm, hp⟩ := h
      refine ih ⟨m, ?_, hp⟩ _
      rcases List.mem_cons.1 hm with rfl | hm
      · exact absurd hp h1
      · exact hm
theorem ndGo_none {L : List (List Nat)} {p : Nat} (h : ∀ m ∈ L, p ∉ m) : ∀ i, ndGo p i L = ⟨-1, -1, -1⟩ := by
  induction L with
  | nil => intro i; rfl
  | cons x r ih =>
    intro i
    have h1 : p ∉ x := h x (by simp)
    simp only [ndGo, h1, if_false]
    exact ih (fun m hm => h m (by simp [hm])) _
/-- what a state of lists has, by where p stands: in list number |A|, or elsewhere -/
theorem ndOf_at {A B : List (List Nat)} {l : List Nat} {p : Nat} (hA : ∀ m ∈ A, p ∉ m) (hp : p ∈ l) : ndOf (A ++ l :: B) p = ⟨(A.length : Int), nxt l p, prv (-1) l p⟩ := by
  unfold ndOf
  rw [ndGo_skip hA]
  simp [ndGo, hp]
theorem ndOf_else {A B : List (List Nat)} {l l' : List Nat} {p : Nat} (hp : p ∉ l) (hp' : p ∉ l') : ndOf (A ++ l :: B) p = ndOf (A ++ l' :: B) p := by
  unfold ndOf
  by_cases h : ∃ m ∈ A, p ∈ m
  · rw [ndGo_pre h, ndGo_pre h]
  · have h' : ∀ m ∈ A, p ∉ m := fun m hm hq => h ⟨m, hm, hq⟩
    rw [ndGo_skip h', ndGo_skip h']
    simp [ndGo, hp, hp']
theorem nd_put {A B : List (List Nat)} {l : List Nat} {a : Nat} (hv : (A ++ l :: B).flatten.Nodup) (ha : a ∉ (A ++ l :: B).flatten) (p : Nat) :
    ndOf (A ++ (l ++ [a]) :: B) p = if p = a then ⟨(A.length : Int), -1, lst l⟩ else if lst l = (p : Int) then { ndOf (A ++ l :: B) p with n := a } else ndOf (A ++ l :: B) p := by
  have hl : a ∉ l := fun h => ha (by simp [h])
  have hA : ∀ m ∈ A, a ∉ m := fun m hm h => ha (by simp; exact .inl ⟨m, hm, h⟩)
  have hn : l.Nodup := by
    simp only [List.flatten_append, List.flatten_cons] at hv
    exact (List.nodup_append.1 (List.nodup_append.1 hv).2.1).1
  have hd1 : ∀ p ∈ l, ∀ m ∈ A, p ∉ m := fun p hp m hm h => by
    simp only [List.flatten_append, List.flatten_cons] at hv
    exact (List.nodup_append.1 hv).2.2 p (List.mem_flatten.2 ⟨m, hm, h⟩) p (by simp [hp]) rfl
  by_cases hpa : p = a
  · subst hpa
    rw [if_pos rfl, ndOf_at hA (by simp), nxt_snoc_last hl, prv_snoc_last hl]
    congr 1
    cases l <;> simp [lst]
  · rw [if_neg hpa]
    by_cases hp : p ∈ l
    · rw [ndOf_at (hd1 p hp) (by simp [hp]), ndOf_at (hd1 p hp) hp, nxt_snoc hn hp, prv_snoc hp]
      by_cases hq : lst l = (p : Int)
      · rw [if_pos hq, if_pos hq]
      · rw [if_neg hq, if_neg hq]
    · have hq : ¬ lst l = (p : Int) := by
        intro hq
        by_cases hl0 : l = []
        · subst hl0; simp [lst] at hq <;> omega
        · obtain ⟨b, hb, e⟩ := lst_mem hl0
          have : b = p := by omega
          subst this; exact hp hb
      rw [if_neg hq]
      exact ndOf_else (by simp [hp, hpa]) hp
theorem nd_cut {A B : List (List Nat)} {l m : List Nat} {a : Nat} (hv : (A ++ (l ++ a :: m) :: B).flatten.Nodup) (p : Nat) :
    ndOf (A ++ (l ++ m) :: B) p = if p = a then ⟨-1, -1, -1⟩ else if lst l = (p : Int) then { ndOf (A ++ (l ++ a :: m) :: B) p with n := hd m } else if hd m = (p : Int) then { ndOf (A ++ (l ++ a :: m) :: B) p with p := lst l } else ndOf (A ++ (l ++ a :: m) :: B) p := by
  have hd1 : ∀ p ∈ l ++ a :: m, ∀ q ∈ A, p ∉ q := fun p hp q hq h => by
    simp only [List.flatten_append, List.flatten_cons] at hv
    exact (List.nodup_append.1 hv).2.2 p (List.mem_flatten.2 ⟨q, hq, h⟩) p (List.mem_append_left _ hp) rfl
  have hd2 : ∀ p ∈ l ++ a :: m, ∀ q ∈ B, p ∉ q := fun p hp q hq h => by
    simp only [List.flatten_append, List.flatten_cons] at hv
    exact (List.nodup_append.1 (List.nodup_append.1 hv).2.1).2.2 p hp p (List.mem_flatten.2 ⟨q, hq, h⟩) rfl
  have hn : (l ++ a :: m).Nodup := by
    simp only [List.flatten_append, List.flatten_cons] at hv
    exact (List.nodup_append.1 (List.nodup_append.1 hv).2.1).1
  obtain ⟨hn1, hn2, hn3⟩ := List.nodup_append.1 hn
  obtain ⟨ham, hnm⟩ := List.nodup_cons.1 hn2
  have hal : a ∉ l := fun h => hn3 a h a (by simp) rfl
  have hlm : ∀ p ∈ l, p ∉ m := fun p h h' => hn3 p h p (by simp [h']) rfl
  by_cases hpa : p = a
  · subst hpa
    rw [if_pos rfl]
    exact ndGo_none (fun q hq => by
      rcases List.mem_append.1 hq with h | h
      · exact hd1 p (by simp) q h
      · rcases List.mem_cons.1 h with rfl | h
        · simp [hal, ham]
        · exact hd2 p (by simp) q h) 0
  · rw [if_neg hpa]
    by_cases hp : p ∈ l
    · have hpm := hlm p hp
      have hhd : ¬ hd m = (p : Int) := by
        intro h
        by_cases h0 : m = []
        · subst h0; simp [hd] at h <;> omega
        · obtain ⟨b, hb, e⟩ := hd_mem h0
          have : b = p := by omega
          subst this; exact hpm hb
      rw [ndOf_at (hd1 p (by simp [hp])) (by simp [hp]), ndOf_at (hd1 p (by simp [hp])) (by simp [hp]), nxt_app_l m hn1 hp, nxt_app_l (a :: m) hn1 hp, prv_app_l m hp, prv_app_l (a :: m) hp]
      by_cases hq : lst l = (p : Int)
      · simp [hq]
      · simp [hq, hhd]
    · have hq : ¬ lst l = (p : Int) := by
        intro hq
        by_cases h0 : l = []
        · subst h0; simp [lst] at hq <;> omega
        · obtain ⟨b, hb, e⟩ := lst_mem h0
          have : b = p := by omega
          subst this; exact hp hb
      rw [if_neg hq]
      by_cases hpm : p ∈ m
      · rw [ndOf_at (hd1 p (by simp [hpm])) (by simp [hpm]), ndOf_at (hd1 p (by simp [hpm])) (by simp [hpm]), nxt_app_r m hp, nxt_app_r (a :: m) hp, prv_app_r1 m hp, prv_app_r1 (a :: m) hp]
        have e1 : nxt (a :: m) p = nxt m p := nxt_app_r (l := [a]) m (by simp; exact hpa)
        have e2 : prv (lst l) (a :: m) p = prv (a : Int) m p := by simp [prv, Ne.symm hpa]
        rw [e1, e2, prv_hd hpm (lst l) (a : Int)]
        by_cases hq2 : hd m = (p : Int)
        · simp [hq2]
        · simp [hq2]
      · have hq2 : ¬ hd m = (p : Int) := by
          intro h
          by_cases h0 : m = []
          · subst h0; simp [hd] at h <;> omega
          · obtain ⟨b, hb, e⟩ := hd_mem h0
            have : b = p := by omega
            subst this; exact hpm hb
        rw [if_neg hq2]
        exact ndOf_else (by simp [hp, hpm]) (by simp [hp, hpm, hpa])
/-- put: at behind list number i -/
def upd3 (ns : List Nd) (k : Int) (f : Nd → Nd) : List Nd := if 0 ≤ k then ns.modify k.toNat f else ns
def cPut (st : Ch) (i a : Nat) : Ch :=
  let last := st.ts.getD i (-1)
  ⟨upd3 (st.ns.set a ⟨i, -1, last⟩) last (fun x => { x with n := a }), if last = -1 then st.hs.set i a else st.hs, st.ts.set i a⟩
def cCut (st : Ch) (a : Nat) : Ch :=
  let x := st.ns.getD a ⟨-1, -1, -1⟩
  ⟨(upd3 (upd3 st.ns x.p (fun y => { y with n := x.n })) x.n (fun y => { y with p := x.p })).set a ⟨-1, -1, -1⟩, if x.p = -1 then st.hs.set x.l.toNat x.n else st.hs, if x.n = -1 then st.ts.set x.l.toNat x.p else st.ts⟩
theorem mod_get {α : Type} (l : List α) (i j : Nat) (f : α → α) : (l.modify i f)[j]? = if i = j then l[j]?.map f else l[j]? := by
  rw [List.getElem?_modify]
  cases h : l[j]? <;> by_cases e : i = j <;> simp [e]
theorem laid_get (n : Nat) (L : List (List Nat)) (p : Nat) : (laid n L).ns[p]? = if p < n then some (ndOf L p) else none := by
  unfold laid
  by_cases h : p < n
  · simp [h]
  · simp [h]
theorem lst_ne {l : List Nat} {p : Nat} (h : lst l = (p : Int)) : p ∈ l := by
  by_cases h0 : l = []
  · subst h0; simp [lst] at h <;> omega
  · obtain ⟨b, hb, e⟩ := lst_mem h0
    have : b = p := by omega
    subst this; exact hb
theorem hd_ne {l : List Nat} {p : Nat} (h : hd l = (p : Int)) : p ∈ l := by
  by_cases h0 : l = []
  · subst h0; simp [hd] at h <;> omega
  · obtain ⟨b, hb, e⟩ := hd_mem h0
    have : b = p := by omega
    subst this; exact hb
theorem lst_cases (l : List Nat) : (l = [] ∧ lst l = -1) ∨ ∃ b : Nat, b ∈ l ∧ lst l = (b : Int) := by
  by_cases h0 : l = []
  · subst h0; exact .inl ⟨rfl, rfl⟩
  · exact .inr (lst_mem h0)
theorem hd_cases (l : List Nat) : (l = [] ∧ hd l = -1) ∨ ∃ b : Nat, b ∈ l ∧ hd l = (b : Int) := by
  by_cases h0 : l = []
  · subst h0; exact .inl ⟨rfl, rfl⟩
  · exact .inr (hd_mem h0)
theorem laid_put {n : Nat} {A B : List (List Nat)} {l : List Nat} {a : Nat} (hv : Vl n (A ++ l :: B)) (ha : a ∉ (A ++ l :: B).flatten) (hn : a < n) : cPut (laid n (A ++ l :: B)) A.length a = laid n (A ++ (l ++ [a]) :: B) := by
  have ht : (laid n (A ++ l :: B)).ts.getD A.length (-1) = lst l := by simp [laid]
  have hl : ∀ p ∈ l, p ≠ a := fun p hp e => ha (by subst e; simp [hp])
  have hns : (cPut (laid n (A ++ l :: B)) A.length a).ns = (laid n (A ++ (l ++ [a]) :: B)).ns := by
    apply List.ext_getElem?
    intro p
    rw [laid_get, nd_put hv.2 ha]
    unfold cPut
    dsimp only
    rw [ht]
    rcases lst_cases l with ⟨e0, e⟩ | ⟨b, hb, e⟩
    · rw [e]
      simp only [upd3, show ¬ (0 : Int) ≤ -1 by omega, if_false]
      rw [List.getElem?_set]
      have hx : ¬ ((-1 : Int) = (p : Int)) := by omega
      have hlen : (laid n (A ++ l :: B)).ns.length = n := by simp [laid]
      by_cases hp : a = p
      · subst hp; simp [hn, hlen]
      · rw [laid_get]; simp [hp, Ne.symm hp, hx]
    · have hba := hl b hb
      rw [e]
      simp only [upd3, show (0 : Int) ≤ (b : Int) by omega, if_true, Int.toNat_natCast]
      rw [mod_get, List.getElem?_set, laid_get]
      have hlen : (laid n (A ++ l :: B)).ns.length = n := by simp [laid]
      by_cases hp : a = p
      · subst hp; simp [hn, hlen, hba]
      · by_cases hbp : b = p
        · subst hbp
          have hbn : b < n := hv.1 l (by simp) b hb
          simp [hp, Ne.symm hp, hbn]
        · have hx : ¬ ((b : Int) = (p : Int)) := by omega
          simp [hp, Ne.symm hp, hbp, hx]
  have hhs : (cPut (laid n (A ++ l :: B)) A.length a).hs = (laid n (A ++ (l ++ [a]) :: B)).hs := by
    unfold cPut
    dsimp only
    rw [ht]
    rcases lst_cases l with ⟨e0, e⟩ | ⟨b, hb, e⟩
    · subst e0; simp [laid, e, hd]
    · have hne : l ≠ [] := fun h => by rw [h] at hb; cases hb
      have hx : ¬ ((b : Int) = -1) := by omega
      simp [laid, e, hx, hd_app, hne]
  have hts : (cPut (laid n (A ++ l :: B)) A.length a).ts = (laid n (A ++ (l ++ [a]) :: B)).ts := by
    simp [cPut, laid, lst_snoc]
  have ext : ∀ x y : Ch, x.ns = y.ns → x.hs = y.hs → x.ts = y.ts → x = y := fun x y h1 h2 h3 => by cases x; cases y; simp_all
  exact ext _ _ hns hhs hts
theorem upd3_get (ns : List Nd) (k : Int) (f : Nd → Nd) (p : Nat) : (upd3 ns k f)[p]? = if k = (p : Int) then ns[p]?.map f else ns[p]? := by
  unfold upd3
  by_cases hk : 0 ≤ k
  · rw [if_pos hk, mod_get]
    by_cases e : k = (p : Int)
    · have : k.toNat = p := by omega
      rw [if_pos this, if_pos e]
    · have : ¬ k.toNat = p := by omega
      rw [if_neg this, if_neg e]
  · rw [if_neg hk, if_neg (by omega)]
theorem upd3_length (ns : List Nd) (k : Int) (f : Nd → Nd) : (upd3 ns k f).length = ns.length := by unfold upd3; split <;> simp
theorem ch_ext {x y : Ch} (h1 : x.ns = y.ns) (h2 : x.hs = y.hs) (h3 : x.ts = y.ts) : x = y := by cases x; cases y; simp_all
theorem laid_cut {n : Nat} {A B : List (List Nat)} {l m : List Nat} {a : Nat} (hv : Vl n (A ++ (l ++ a :: m) :: B)) : cCut (laid n (A ++ (l ++ a :: m) :: B)) a = laid n (A ++ (l ++ m) :: B) := by
  have han : a < n := hv.1 (l ++ a :: m) (by simp) a (by simp)
  have hvd := hv.2
  simp only [List.flatten_append, List.flatten_cons] at hvd
  have hnd : (l ++ a :: m).Nodup := (List.nodup_append.1 (List.nodup_append.1 hvd).2.1).1
  have hA : ∀ q ∈ A, a ∉ q := fun q hq h => (List.nodup_append.1 hvd).2.2 a (List.mem_flatten.2 ⟨q, hq, h⟩) a (by simp) rfl
  obtain ⟨hn1, hn2, hn3⟩ := List.nodup_append.1 hnd
  obtain ⟨ham, hnm⟩ := List.nodup_cons.1 hn2
  have hal : a ∉ l := fun h => hn3 a h a (by simp) rfl
  have hx : (laid n (A ++ (l ++ a :: m) :: B)).ns.getD a ⟨-1, -1, -1⟩ = ⟨(A.length : Int), hd m, lst l⟩ := by
    rw [List.getD_eq_getElem?_getD, laid_get, if_pos han, ndOf_at hA (by simp), nxt_app_r (a :: m) hal, prv_app_r1 (a :: m) hal]
    have e1 : nxt (a :: m) a = hd m := by cases m <;> simp [nxt, hd]
    have e2 : prv (lst l) (a :: m) a = lst l := by simp [prv]
    rw [e1, e2]; rfl
  refine ch_ext ?_ ?_ ?_
  · apply List.ext_getElem?
    intro p
    rw [laid_get, nd_cut hv.2]
    unfold cCut
    dsimp only
    rw [hx]
    dsimp only
    have hlen : (laid n (A ++ (l ++ a :: m) :: B)).ns.length = n := by simp [laid]
    rw [List.getElem?_set, upd3_length, upd3_length, hlen, upd3_get, upd3_get, laid_get]
    by_cases hpa : p = a
    · subst hpa; simp [han]
    · rw [if_neg (Ne.symm hpa), if_neg hpa]
      by_cases h1 : lst l = (p : Int)
      · have h2 : ¬ hd m = (p : Int) := fun h2 => hn3 p (lst_ne h1) p (by simp [hd_ne h2]) rfl
        have hpn : p < n := hv.1 (l ++ a :: m) (by simp) p (by simp [lst_ne h1])
        simp [h1, h2, hpn]
      · by_cases h2 : hd m = (p : Int)
        · have hpn : p < n := hv.1 (l ++ a :: m) (by simp) p (by simp [hd_ne h2])
          simp [h1, h2, hpn]
        · simp [h1, h2]
  · unfold cCut
    dsimp only
    rw [hx]
    dsimp only
    rcases lst_cases l with ⟨e0, e⟩ | ⟨b, hb, e⟩
    · subst e0; simp [laid, lst]
    · have hne : l ≠ [] := fun h => by rw [h] at hb; cases hb
      have hx : ¬ ((b : Int) = -1) := by omega
      simp [laid, e, hx, hd_app, hne]
  · unfold cCut
    dsimp only
    rw [hx]
    dsimp only
    rcases hd_cases m with ⟨e0, e⟩ | ⟨b, hb, e⟩
    · subst e0; simp [laid, hd, lst_app, lst]
    · have hne : m ≠ [] := fun h => by rw [h] at hb; cases hb
      have hx : ¬ ((b : Int) = -1) := by omega
      have hla : lst (a :: m) = lst m := by cases m with
        | nil => exact absurd rfl hne
        | cons y r => rfl
      simp [laid, e, hx, lst_app, hne, hla]
end Go.Proofs.Ythicpjfdljgfpaa
