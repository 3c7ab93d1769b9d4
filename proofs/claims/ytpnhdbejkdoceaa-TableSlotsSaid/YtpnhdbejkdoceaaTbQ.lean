/- An open-addressed table in plain words: putting in, taking out. No program in sight. -/
import Derived.Test.YtpnhdbejkdoceaaTbP
namespace Go.Proofs.Ytpnhdbejkdoceaa
set_option linter.unusedSimpArgs false
set_option linter.unusedVariables false

def hasE (l : List TS) (k : ByteArray) (v : Int) : Prop := ∃ p, p < l.length ∧ (gt l p).live = true ∧ (gt l p).k = k ∧ (gt l p).v = v
/-- two tables whose slots have the same keys -/
theorem ti_same {l m : List TS} (hn : m.length = l.length) (hk : ∀ p, (gt m p).k = (gt l p).k ∧ (gt m p).live = (gt l p).live) (hr : lv m < m.length) (hd : ∀ p, (gt m p).live = false → gt m p = tz) (h : TI l) : TI m where
  n2 := by rw [hn]; exact h.n2
  one p q hp hq h1 h2 h3 := by
    rw [hn] at hp hq; rw [(hk p).2] at h1; rw [(hk q).2] at h2; rw [(hk p).1, (hk q).1] at h3
    exact h.one p q hp hq h1 h2 h3
  way p q hp hq h1 h2 := by
    rw [hn] at hp hq h2; rw [(hk p).2] at h1; rw [(hk p).1] at h2; rw [(hk q).2]
    exact h.way p q hp hq h1 h2
  room := hr
  dead := hd
theorem put_old {l : List TS} (h : TI l) {p : Nat} (hp : p < l.length) (hl : (gt l p).live = true) (v : Int) :
    TI (l.set p ⟨(gt l p).k, v, true⟩) ∧ lv (l.set p ⟨(gt l p).k, v, true⟩) = lv l ∧ ∀ k u, hasE (l.set p ⟨(gt l p).k, v, true⟩) k u ↔ if k = (gt l p).k then u = v else hasE l k u := by
  have hs := fun q => gt_set l p q ⟨(gt l p).k, v, true⟩ hp
  have hc := lv_set l p ⟨(gt l p).k, v, true⟩ hp
  have hlv : lv (l.set p ⟨(gt l p).k, v, true⟩) = lv l := by simp [hl] at hc; omega
  refine ⟨ti_same (l := l) (by simp) (fun q => ?_) (by rw [hlv]; simpa using h.room) (fun q hq => ?_) h, hlv, fun k u => ?_⟩
  · rw [hs]; by_cases e : q = p
    · subst e; simp [hl]
    · simp [e]
  · rw [hs] at hq ⊢
    by_cases e : q = p
    · simp [e] at hq
    · simp only [e, if_false] at hq ⊢; exact h.dead q hq
  · unfold hasE
    simp only [List.length_set, hs]
    by_cases e : k = (gt l p).k
    · rw [if_pos e]
      constructor
      · rintro ⟨q, hq, h1, h2, h3⟩
        by_cases eq : q = p
        · simp only [eq, if_true] at h3; exact h3.symm
        · simp only [eq, if_false] at h1 h2
          exact absurd (h.one q p hq hp h1 hl (h2.trans e)) eq
      · intro eu
        exact ⟨p, hp, by simp, by simp [e], by simp [eu]⟩
    · rw [if_neg e]
      constructor
      · rintro ⟨q, hq, h1, h2, h3⟩
        by_cases eq : q = p
        · simp only [eq, if_true] at h2; exact absurd h2.symm e
        · simp only [eq, if_false] at h1 h2 h3
          exact ⟨q, hq, h1, h2, h3⟩
      · rintro ⟨q, hq, h1, h2, h3⟩
        have eq : q ≠ p := fun c => by subst c; exact e h2.symm
        exact ⟨q, hq, by simp [eq, h1], by simp [eq, h2], by simp [eq, h3]⟩
theorem put_new {l : List TS} (h : TI l) {p : Nat} (k : ByteArray) (v : Int) (hp : p < l.length) (hd : (gt l p).live = false) (hno : ¬ hasK l k)
    (hw : ∀ q, q < l.length → ds l.length (hm l.length k) q < ds l.length (hm l.length k) p → (gt l q).live = true ∧ (gt l q).k ≠ k) (hr : lv l + 1 < l.length) :
    TI (l.set p ⟨k, v, true⟩) ∧ lv (l.set p ⟨k, v, true⟩) = lv l + 1 ∧ ∀ k' u, hasE (l.set p ⟨k, v, true⟩) k' u ↔ if k' = k then u = v else hasE l k' u := by
  have hs := fun q => gt_set l p q ⟨k, v, true⟩ hp
  have hc := lv_set l p ⟨k, v, true⟩ hp
  have hlv : lv (l.set p ⟨k, v, true⟩) = lv l + 1 := by simp [hd] at hc; omega
  have hlive : ∀ q, (gt l q).live = true → (gt (l.set p ⟨k, v, true⟩) q).live = true := fun q hq => by
    rw [hs]; by_cases e : q = p
    · simp [e]
    · simp [e, hq]
  refine ⟨⟨by simpa using h.n2, fun a b ha hb h1 h2 h3 => ?_, fun a b ha hb h1 h2 => ?_, by rw [hlv]; simpa using hr, fun q hq => ?_⟩, hlv, fun k' u => ?_⟩
  · simp only [List.length_set] at ha hb
    rw [hs] at h1 h3; rw [hs] at h2 h3
    by_cases ea : a = p <;> by_cases eb : b = p
    · rw [ea, eb]
    · simp only [ea, eb, if_true, if_false] at h2 h3
      exact absurd ⟨b, hb, h2, h3.symm⟩ hno
    · simp only [ea, eb, if_true, if_false] at h1 h3
      exact absurd ⟨a, ha, h1, h3⟩ hno
    · simp only [ea, eb, if_false] at h1 h2 h3
      exact h.one a b ha hb h1 h2 h3
  · simp only [List.length_set] at ha hb h2
    rw [hs] at h1 h2
    by_cases ea : a = p
    · simp only [ea, if_true] at h2
      exact hlive b (hw b hb h2).1
    · simp only [ea, if_false] at h1 h2
      exact hlive b (h.way a b ha hb h1 h2)
  · rw [hs] at hq ⊢
    by_cases e : q = p
    · simp [e] at hq
    · simp only [e, if_false] at hq ⊢; exact h.dead q hq
  · unfold hasE
    simp only [List.length_set, hs]
    by_cases e : k' = k
    · rw [if_pos e]
      constructor
      · rintro ⟨q, hq, h1, h2, h3⟩
        by_cases eq : q = p
        · simp only [eq, if_true] at h3; exact h3.symm
        · simp only [eq, if_false] at h1 h2
          exact absurd ⟨q, hq, h1, h2.trans e⟩ hno
      · intro eu
        exact ⟨p, hp, by simp, by simp [e], by simp [eu]⟩
    · rw [if_neg e]
      constructor
      · rintro ⟨q, hq, h1, h2, h3⟩
        by_cases eq : q = p
        · simp only [eq, if_true] at h2; exact absurd h2.symm e
        · simp only [eq, if_false] at h1 h2 h3
          exact ⟨q, hq, h1, h2, h3⟩
      · rintro ⟨q, hq, h1, h2, h3⟩
        have eq : q ≠ p := fun c => by subst c; rw [hd] at h1; cases h1
        exact ⟨q, hq, by simp [eq, h1], by simp [eq, h2], by simp [eq, h3]⟩

/-- may the entry at a stand in the gap g? -/
def fit (l : List TS) (a g : Nat) : Bool := decide (ds l.length g a ≤ ds l.length (hm l.length (gt l a).k) a)
/-- closing a gap -/
def dl : Nat → List TS → Nat → Nat → List TS × Nat
  | 0, l, g, _ => (l, g)
  | f + 1, l, g, a => if (gt l a).live = false then (l, g) else if fit l a g = true then dl f (l.set g (gt l a)) a (nx l.length a) else dl f l g (nx l.length a)
/-- under way: slot g is the gap (its old entry still lies there), a is looked at next; P: what entries there are beside the gap's -/
structure DI (n c : Nat) (P : ByteArray → Int → Prop) (l : List TS) (g a : Nat) : Prop where
  len : l.length = n
  n2 : 2 ≤ n
  gl : g < n
  al : a < n
  lg : (gt l g).live = true
  one : ∀ p q, p < n → q < n → p ≠ g → q ≠ g → (gt l p).live = true → (gt l q).live = true → (gt l p).k = (gt l q).k → p = q
  way : ∀ p q, p < n → q < n → p ≠ g → q ≠ g → (gt l p).live = true → ds n (hm n (gt l p).k) q < ds n (hm n (gt l p).k) p → (gt l q).live = true
  gap : ∀ p, p < n → p ≠ g → (gt l p).live = true → ds n (hm n (gt l p).k) g < ds n (hm n (gt l p).k) p → ds n g a ≤ ds n g p
  mid : ∀ q, q < n → 1 ≤ ds n g q → ds n g q < ds n g a → (gt l q).live = true
  a1 : 1 ≤ ds n g a
  cnt : lv l = c
  cn : c < n
  dead : ∀ p, (gt l p).live = false → gt l p = tz
  ent : ∀ k v, P k v ↔ ∃ p, p < n ∧ p ≠ g ∧ (gt l p).live = true ∧ (gt l p).k = k ∧ (gt l p).v = v
theorem DI.start {l : List TS} (h : TI l) {g : Nat} (hg : g < l.length) (hl : (gt l g).live = true) :
    DI l.length (lv l) (fun k v => k ≠ (gt l g).k ∧ hasE l k v) l g (nx l.length g) where
  len := rfl
  n2 := h.n2
  gl := hg
  al := nx_lt hg
  lg := hl
  one p q hp hq _ _ h1 h2 h3 := h.one p q hp hq h1 h2 h3
  way p q hp hq _ _ h1 h2 := h.way p q hp hq h1 h2
  gap p hp hne _ _ := by rw [ds_nx1 h.n2 hg]; exact ds_pos hg hp hne
  mid q hq h1 h2 := by rw [ds_nx1 h.n2 hg] at h2; omega
  a1 := by rw [ds_nx1 h.n2 hg]; exact Nat.le_refl _
  cnt := rfl
  cn := h.room
  dead := h.dead
  ent k v := by
    constructor
    · rintro ⟨hk, p, hp, h1, h2, h3⟩
      exact ⟨p, hp, fun e => hk (by rw [← e, h2]), h1, h2, h3⟩
    · rintro ⟨p, hp, hne, h1, h2, h3⟩
      exact ⟨fun e => hne (h.one p g hp hg h1 hl (h2.trans e)), p, hp, h1, h2, h3⟩
section
variable {n c : Nat} {P : ByteArray → Int → Prop} {l : List TS} {g a : Nat}
theorem DI.far (h : DI n c P l g a) (ha : (gt l a).live = true) : ds n g a + 1 < n := by
  obtain ⟨e, he, hd⟩ := lv_dead (l := l) (by rw [h.cnt, h.len]; exact h.cn)
  rw [h.len] at he
  have h1 : e ≠ g := fun c => by subst c; rw [h.lg] at hd; cases hd
  have h2 : ¬ ds n g e < ds n g a := fun c => by
    have := h.mid e he (ds_pos h.gl he h1) c
    rw [hd] at this; cases this
  have h3 : ds n g e ≠ ds n g a := fun c => by
    have := ds_inj h.gl he h.al c
    rw [this, ha] at hd; cases hd
  have := ds_lt h.gl he
  omega
theorem DI.skip (h : DI n c P l g a) (ha : (gt l a).live = true) (hf : ¬ ds n g a ≤ ds n (hm n (gt l a).k) a) : DI n c P l g (nx n a) := by
  have hfar := h.far ha
  have e := ds_nx h.gl h.al hfar
  have hag : a ≠ g := fun c => by have := h.a1; rw [c, ds_self] at this; omega
  have hm1 := hm_lt (n := n) (by have := h.n2; omega) (gt l a).k
  exact { h with
    al := nx_lt h.al
    gap := fun p hp hne hpl hpg => by
      have h1 := h.gap p hp hne hpl hpg
      rw [e]
      rcases Nat.lt_or_ge (ds n g a) (ds n g p) with c | c
      · exact c
      · have : p = a := ds_inj h.gl hp h.al (by omega)
        subst this
        exact absurd ((ds_on hm1 h.gl h.al (Ne.symm hag)).2 hpg) hf
    mid := fun q hq h1 h2 => by
      rw [e] at h2
      rcases Nat.lt_or_ge (ds n g q) (ds n g a) with c | c
      · exact h.mid q hq h1 c
      · rw [ds_inj h.gl hq h.al (by omega)]; exact ha
    a1 := by rw [e]; have := h.a1; omega }
theorem DI.move (h : DI n c P l g a) (ha : (gt l a).live = true) (hf : ds n g a ≤ ds n (hm n (gt l a).k) a) : DI n c P (l.set g (gt l a)) a (nx n a) := by
  have hag : a ≠ g := fun c => by have := h.a1; rw [c, ds_self] at this; omega
  have hgl : g < l.length := by rw [h.len]; exact h.gl
  have hs := fun q => gt_set l g q (gt l a) hgl
  have hsa : gt (l.set g (gt l a)) a = gt l a := by rw [hs, if_neg hag]
  have hm1 := hm_lt (n := n) (by have := h.n2; omega) (gt l a).k
  have hon := (ds_on hm1 h.gl h.al (Ne.symm hag)).1 hf
  have hlive : ∀ q, (gt (l.set g (gt l a)) q).live = (gt l q).live := fun q => by
    rw [hs]; by_cases e : q = g
    · rw [if_pos e, e, ha, h.lg]
    · rw [if_neg e]
  have hc := lv_set l g (gt l a) hgl
  refine ⟨by rw [List.length_set]; exact h.len, h.n2, h.al, nx_lt h.al, by rw [hsa]; exact ha, fun p q hp hq hpa hqa h1 h2 h3 => ?_, fun p q hp hq hpa hqa h1 h2 => ?_, fun p hp hpa h1 h2 => ?_, fun q hq h1 h2 => ?_, by rw [ds_nx1 h.n2 h.al]; exact Nat.le_refl _, ?_, h.cn, fun p hp => ?_, fun k v => ?_⟩
  · rw [hlive] at h1 h2
    rw [hs, hs] at h3
    by_cases ep : p = g <;> by_cases eq : q = g
    · rw [ep, eq]
    · simp only [ep, eq, if_true, if_false] at h3
      exact absurd (h.one a q h.al hq hag eq ha h2 h3).symm hqa
    · simp only [ep, eq, if_true, if_false] at h3
      exact absurd (h.one p a hp h.al ep hag h1 ha h3) hpa
    · simp only [ep, eq, if_false] at h3
      exact h.one p q hp hq ep eq h1 h2 h3
  · rw [hlive] at h1 ⊢
    rw [hs] at h2
    by_cases ep : p = g
    · rw [if_pos ep, ep] at h2
      have eq : q ≠ g := fun c => by rw [c] at h2; omega
      exact h.way a q h.al hq hag eq ha (by omega)
    · rw [if_neg ep] at h2
      by_cases eq : q = g
      · rw [eq]; exact h.lg
      · exact h.way p q hp hq ep eq h1 h2
  · rw [ds_nx1 h.n2 h.al]
    exact ds_pos h.al hp hpa
  · rw [ds_nx1 h.n2 h.al] at h2; omega
  · simp only [h.lg, ha, if_true] at hc
    have := h.cnt; omega
  · rw [hlive] at hp
    rw [hs, if_neg (fun c => by subst c; rw [h.lg] at hp; cases hp)]
    exact h.dead p hp
  · rw [h.ent]
    constructor
    · rintro ⟨p, hp, hne, h1, h2, h3⟩
      by_cases ep : p = a
      · subst ep
        exact ⟨g, h.gl, Ne.symm hag, by rw [hlive]; exact h.lg, by rw [hs, if_pos rfl]; exact h2, by rw [hs, if_pos rfl]; exact h3⟩
      · exact ⟨p, hp, ep, by rw [hlive]; exact h1, by rw [hs, if_neg hne]; exact h2, by rw [hs, if_neg hne]; exact h3⟩
    · rintro ⟨p, hp, hne, h1, h2, h3⟩
      rw [hlive] at h1
      rw [hs] at h2 h3
      by_cases ep : p = g
      · simp only [ep, if_true] at h2 h3
        exact ⟨a, h.al, hag, ha, h2, h3⟩
      · simp only [ep, if_false] at h2 h3
        exact ⟨p, hp, ep, h1, h2, h3⟩
theorem DI.done (h : DI n c P l g a) (ha : (gt l a).live = false) : TI (l.set g tz) ∧ lv (l.set g tz) + 1 = c ∧ ∀ k v, hasE (l.set g tz) k v ↔ P k v := by
  have hgl : g < l.length := by rw [h.len]; exact h.gl
  have hs := fun q => gt_set l g q tz hgl
  have hag : a ≠ g := fun c => by have := h.a1; rw [c, ds_self] at this; omega
  have hc := lv_set l g tz hgl
  have hlv : lv (l.set g tz) + 1 = c := by
    have e : tz.live = false := rfl
    simp only [h.lg, if_true, e, Bool.false_eq_true, if_false] at hc
    have := h.cnt; omega
  have hpl : ∀ p, (gt (l.set g tz) p).live = true → p ≠ g ∧ (gt l p).live = true := fun p hp => by
    rw [hs] at hp
    by_cases e : p = g
    · rw [if_pos e] at hp; cases hp
    · rw [if_neg e] at hp; exact ⟨e, hp⟩
  have hln : (l.set g tz).length = n := by rw [List.length_set]; exact h.len
  refine ⟨⟨by rw [hln]; exact h.n2, fun p q hp hq h1 h2 h3 => ?_, fun p q hp hq h1 h2 => ?_, by rw [hln]; have := h.cn; omega, fun p hp => ?_⟩, hlv, fun k v => ?_⟩
  · obtain ⟨np, lp⟩ := hpl p h1
    obtain ⟨nq, lq⟩ := hpl q h2
    rw [hs, hs, if_neg np, if_neg nq] at h3
    rw [hln] at hp hq
    exact h.one p q hp hq np nq lp lq h3
  · obtain ⟨np, lp⟩ := hpl p h1
    rw [hln] at hp hq h2
    rw [hs, if_neg np] at h2
    have hm1 := hm_lt (n := n) (by have := h.n2; omega) (gt l p).k
    by_cases nq : q = g
    · rw [nq] at h2
      have h3 := h.gap p hp np lp h2
      have h4 : ds n g a ≠ ds n g p := fun c => by
        have := ds_inj h.gl h.al hp c
        rw [this] at ha; rw [ha] at lp; cases lp
      have h5 := ds_mid hm1 h.gl h.al hp h2 (by omega)
      have := h.way p a hp h.al np hag lp h5
      rw [ha] at this; cases this
    · rw [hs, if_neg nq]
      exact h.way p q hp hq np nq lp h2
  · rw [hs] at hp ⊢
    by_cases e : p = g
    · rw [if_pos e]
    · rw [if_neg e] at hp ⊢; exact h.dead p hp
  · rw [h.ent]
    unfold hasE
    rw [hln]
    constructor
    · rintro ⟨p, hp, h1, h2, h3⟩
      obtain ⟨np, lp⟩ := hpl p h1
      rw [hs, if_neg np] at h2 h3
      exact ⟨p, hp, np, lp, h2, h3⟩
    · rintro ⟨p, hp, np, h1, h2, h3⟩
      exact ⟨p, hp, by rw [hs, if_neg np]; exact h1, by rw [hs, if_neg np]; exact h2, by rw [hs, if_neg np]; exact h3⟩
end
end Go.Proofs.Ytpnhdbejkdoceaa
