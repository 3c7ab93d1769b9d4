/- An open-addressed table in plain words: where a key is found; what putting in and taking out leave. No program in sight. -/
import Derived.Test.YtpnhdbejkdoceaaHash
namespace Go.Proofs.Ytpnhdbejkdoceaa
set_option linter.unusedSimpArgs false
set_option linter.unusedVariables false

structure TS where
  k : ByteArray
  v : Int
  live : Bool
def tz : TS := ⟨ByteArray.empty, 0, false⟩
instance : Inhabited TS := ⟨tz⟩
def gt (l : List TS) (p : Nat) : TS := l.getD p tz
def hm (n : Nat) (k : ByteArray) : Nat := (hBelow (hOf k.data.toList) n).toNat
def nx (n a : Nat) : Nat := if a + 1 = n then 0 else a + 1
/-- how far p stands behind h -/
def ds (n h p : Nat) : Nat := if h ≤ p then p - h else p + n - h

theorem hm_lt {n : Nat} (hn : 1 ≤ n) (k : ByteArray) : hm n k < n := by
  unfold hm hBelow
  rw [if_neg (by omega)]
  have h1 := Int.emod_lt_of_pos (hOf k.data.toList) (b := (n : Int)) (by omega)
  have h2 := Int.emod_nonneg (hOf k.data.toList) (b := (n : Int)) (by omega)
  omega
theorem nx_lt {n a : Nat} (h : a < n) : nx n a < n := by unfold nx; split <;> omega
theorem ds_lt {n h p : Nat} (hh : h < n) (hp : p < n) : ds n h p < n := by unfold ds; split <;> omega
theorem ds_self (n h : Nat) : ds n h h = 0 := by simp [ds]
theorem ds_inj {n h p q : Nat} (hh : h < n) (hp : p < n) (hq : q < n) (e : ds n h p = ds n h q) : p = q := by unfold ds at e; split at e <;> split at e <;> omega
theorem ds_nx {n h a : Nat} (hh : h < n) (ha : a < n) (hd : ds n h a + 1 < n) : ds n h (nx n a) = ds n h a + 1 := by
  unfold ds nx at *; split at hd <;> split <;> split <;> omega
theorem ds_nx1 {n a : Nat} (hn : 2 ≤ n) (ha : a < n) : ds n a (nx n a) = 1 := by
  unfold ds nx; split <;> split <;> omega
theorem ds_pos {n h p : Nat} (hh : h < n) (hp : p < n) (hne : p ≠ h) : 1 ≤ ds n h p := by unfold ds; split <;> omega
/-- g lies on the way from h to a just if the way from g is no longer -/
theorem ds_on {n h g a : Nat} (hh : h < n) (hg : g < n) (ha : a < n) (hne : g ≠ a) : ds n g a ≤ ds n h a ↔ ds n h g < ds n h a := by
  unfold ds; split <;> split <;> split <;> omega
theorem ds_mid {n h g a p : Nat} (hh : h < n) (hg : g < n) (ha : a < n) (hp : p < n) (h1 : ds n h g < ds n h p) (h2 : ds n g a < ds n g p) : ds n h a < ds n h p := by
  unfold ds at *; split at h1 <;> split at h1 <;> split at h2 <;> split at h2 <;> split <;> omega
theorem ds_less {n a e : Nat} (ha : a < n) (he : e < n) (hne : a ≠ e) : ds n (nx n a) e + 1 = ds n a e := by
  unfold ds nx; split <;> split <;> split <;> omega

theorem gt_get {l : List TS} {p : Nat} (h : p < l.length) : gt l p = l[p] := by simp [gt, List.getD, h]
theorem gt_set (l : List TS) (p q : Nat) (x : TS) (hp : p < l.length) : gt (l.set p x) q = if q = p then x else gt l q := by
  unfold gt
  simp only [List.getD, List.getElem?_set]
  by_cases e : p = q
  · subst e; simp [hp]
  · simp [e, Ne.symm e]
def lv (l : List TS) : Nat := l.countP (·.live)
theorem lv_le (l : List TS) : lv l ≤ l.length := List.countP_le_length
theorem lv_set (l : List TS) (p : Nat) (x : TS) (hp : p < l.length) : lv (l.set p x) + (if (gt l p).live then 1 else 0) = lv l + (if x.live then 1 else 0) := by
  unfold lv
  rw [List.countP_set hp, gt_get hp]
  by_cases h1 : l[p].live = true
  · have : 0 < l.countP (·.live) := List.countP_pos_iff.2 ⟨l[p], List.getElem_mem hp, h1⟩
    by_cases h2 : x.live = true <;> simp [h1, h2] <;> omega
  · by_cases h2 : x.live = true <;> simp [h1, h2]
theorem lv_dead {l : List TS} (h : lv l < l.length) : ∃ p, p < l.length ∧ (gt l p).live = false := by
  refine Classical.byContradiction fun hno => ?_
  have : l.countP (·.live) = l.length := List.countP_eq_length.2 fun x hx => by
    obtain ⟨p, hp, rfl⟩ := List.getElem_of_mem hx
    cases hl : l[p].live with
    | true => rfl
    | false => exact absurd ⟨p, hp, by rw [gt_get hp]; exact hl⟩ hno
  unfold lv at h
  omega

/-- where a key stands, or would stand -/
def fnd (l : List TS) (k : ByteArray) : Nat → Nat → Nat × Bool
  | 0, a => (a, false)
  | f + 1, a => if (gt l a).live = false then (a, false) else if (gt l a).k = k then (a, true) else fnd l k f (nx l.length a)
def fnd0 (l : List TS) (k : ByteArray) : Nat × Bool := fnd l k l.length (hm l.length k)
/-- a table that may be -/
structure TI (l : List TS) : Prop where
  n2 : 2 ≤ l.length
  one : ∀ p q, p < l.length → q < l.length → (gt l p).live = true → (gt l q).live = true → (gt l p).k = (gt l q).k → p = q
  way : ∀ p q, p < l.length → q < l.length → (gt l p).live = true → ds l.length (hm l.length (gt l p).k) q < ds l.length (hm l.length (gt l p).k) p → (gt l q).live = true
  room : lv l < l.length
  dead : ∀ p, (gt l p).live = false → gt l p = tz

theorem fnd_spec {l : List TS} (k : ByteArray) (hn : 1 ≤ l.length) : ∀ (f a : Nat), a < l.length → ds l.length (hm l.length k) a + f = l.length →
    (∀ q, q < l.length → ds l.length (hm l.length k) q < ds l.length (hm l.length k) a → (gt l q).live = true ∧ (gt l q).k ≠ k) →
    ((fnd l k f a).2 = true ∧ (fnd l k f a).1 < l.length ∧ (gt l (fnd l k f a).1).live = true ∧ (gt l (fnd l k f a).1).k = k) ∨
    ((fnd l k f a).2 = false ∧ (fnd l k f a).1 < l.length ∧ (gt l (fnd l k f a).1).live = false ∧ ∀ q, q < l.length → ds l.length (hm l.length k) q < ds l.length (hm l.length k) (fnd l k f a).1 → (gt l q).live = true ∧ (gt l q).k ≠ k) ∨
    (∀ q, q < l.length → (gt l q).live = true)
  | 0, a, ha, hd, _ => by
    have := ds_lt (hm_lt hn k) ha
    omega
  | f + 1, a, ha, hd, hq => by
    unfold fnd
    by_cases h1 : (gt l a).live = false
    · rw [if_pos h1]
      exact .inr (.inl ⟨rfl, ha, h1, hq⟩)
    · rw [if_neg h1]
      have h1' : (gt l a).live = true := by simpa using h1
      by_cases h2 : (gt l a).k = k
      · rw [if_pos h2]
        exact .inl ⟨rfl, ha, h1', h2⟩
      · rw [if_neg h2]
        by_cases hl : ds l.length (hm l.length k) a + 1 < l.length
        · have e := ds_nx (hm_lt hn k) ha hl
          refine fnd_spec k hn f (nx l.length a) (nx_lt ha) (by omega) fun q hql hqd => ?_
          rw [e] at hqd
          by_cases hqa : q = a
          · subst hqa; exact ⟨h1', h2⟩
          · exact hq q hql (by
              have : ds l.length (hm l.length k) q ≠ ds l.length (hm l.length k) a := fun e => hqa (ds_inj (hm_lt hn k) hql ha e)
              omega)
        · refine .inr (.inr fun q hql => ?_)
          by_cases hqa : q = a
          · subst hqa; exact h1'
          · have h3 : ds l.length (hm l.length k) q ≠ ds l.length (hm l.length k) a := fun e => hqa (ds_inj (hm_lt hn k) hql ha e)
            have h4 := ds_lt (hm_lt hn k) hql
            exact (hq q hql (by omega)).1
def hasK (l : List TS) (k : ByteArray) : Prop := ∃ p, p < l.length ∧ (gt l p).live = true ∧ (gt l p).k = k
theorem find_ways {l : List TS} (h : TI l) (k : ByteArray) :
    ((fnd0 l k).2 = true ∧ (fnd0 l k).1 < l.length ∧ (gt l (fnd0 l k).1).live = true ∧ (gt l (fnd0 l k).1).k = k) ∨
    ((fnd0 l k).2 = false ∧ ¬ hasK l k ∧ (fnd0 l k).1 < l.length ∧ (gt l (fnd0 l k).1).live = false ∧ ∀ q, q < l.length → ds l.length (hm l.length k) q < ds l.length (hm l.length k) (fnd0 l k).1 → (gt l q).live = true ∧ (gt l q).k ≠ k) := by
  have hn : 1 ≤ l.length := by have := h.n2; omega
  have hl := hm_lt hn k
  have hsp := fnd_spec k hn l.length (hm l.length k) hl (by rw [ds_self]; omega) (fun q _ hd => by rw [ds_self] at hd; omega)
  change _ ∨ _ ∨ _ at hsp
  rw [show fnd l k l.length (hm l.length k) = fnd0 l k from rfl] at hsp
  rcases hsp with a | ⟨b, c, d, e⟩ | a
  · exact .inl a
  · refine .inr ⟨b, ?_, c, d, e⟩
    rintro ⟨p, hp, hpl, hpk⟩
    have hw := h.way p (fnd0 l k).1 hp c hpl
    rw [hpk] at hw
    have hw2 : ¬ ds l.length (hm l.length k) (fnd0 l k).1 < ds l.length (hm l.length k) p := fun hx => by
      have := hw hx
      rw [show (gt l (fnd0 l k).1).live = false from d] at this; cases this
    by_cases hx : ds l.length (hm l.length k) p < ds l.length (hm l.length k) (fnd0 l k).1
    · exact (e p hp hx).2 hpk
    · have := ds_inj hl hp c (by omega)
      rw [this] at hpl
      rw [show (gt l (fnd0 l k).1).live = false from d] at hpl; cases hpl
  · obtain ⟨p, hp, hd⟩ := lv_dead h.room
    rw [a p hp] at hd; cases hd
theorem find_at {l : List TS} (h : TI l) {p : Nat} (hp : p < l.length) (hl : (gt l p).live = true) : fnd0 l (gt l p).k = (p, true) := by
  rcases find_ways h (gt l p).k with ⟨a, b, c, d⟩ | ⟨a, b, _⟩
  · exact Prod.ext (h.one _ _ b hp c hl d) a
  · exact absurd ⟨p, hp, hl, rfl⟩ b
end Go.Proofs.Ytpnhdbejkdoceaa
