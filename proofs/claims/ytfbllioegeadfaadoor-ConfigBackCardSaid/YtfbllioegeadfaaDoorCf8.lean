/- A config's text in plain words, field by field; a config that may be has small numbers. No program in sight. -/
import Derived.Test.YtfbllioegeadfaaDoorCf5
namespace Go.Proofs.YtfbllioegeadfaaDoor
open Go.RowKit
set_option linter.unusedSimpArgs false
set_option linter.unusedVariables false

theorem small_ac {c : AC} (h : aCheck c = 0) : (bIn c.ab 1 1000 = true ∧ bIn c.ar 0 1000 = true) ∧ (bIn c.eb 1 1000 = true ∧ bIn c.er 0 1000 = true) ∧ (vLoads c.up c.dn = true ∧ vIn c.hold 0 1000 = true) ∧ (jOk1 c.lo c.hi 0 = true ∧ jOk1 c.lo c.hi 1 = true ∧ jOk1 c.lo c.hi 2 = true ∧ jOk1 c.lo c.hi 3 = true) := by
  unfold aCheck at h
  by_cases h1 : bCheck c.ab c.ar = 0
  case neg => rw [if_pos h1] at h; exact absurd h h1
  rw [if_neg (by simp [h1])] at h
  by_cases h2 : bCheck c.eb c.er = 0
  case neg => rw [if_pos h2] at h; exact absurd h h2
  rw [if_neg (by simp [h2])] at h
  by_cases h3 : vCheck c.up c.dn c.hold = 0
  case neg => rw [if_pos h3] at h; exact absurd h h3
  rw [if_neg (by simp [h3])] at h
  have b1 : ∀ b r, bCheck b r = 0 → bIn b 1 1000 = true ∧ bIn r 0 1000 = true := by
    intro b r hb
    unfold bCheck bGood at hb
    cases e1 : bIn b 1 1000 <;> cases e2 : bIn r 0 1000 <;> simp [e1, e2] at hb ⊢
  refine ⟨b1 _ _ h1, b1 _ _ h2, ?_, ?_⟩
  · unfold vCheck at h3
    cases e1 : vLoads c.up c.dn <;> cases e2 : vIn c.hold 0 1000 <;> simp [e1, e2] at h3 ⊢
  · unfold jCheck at h
    cases e0 : jOk1 c.lo c.hi 0 <;> cases e1 : jOk1 c.lo c.hi 1 <;> cases e2 : jOk1 c.lo c.hi 2 <;> cases e3 : jOk1 c.lo c.hi 3 <;> simp [e0, e1, e2, e3] at h ⊢
theorem small_cc {c : CC} (h : cCheck c = 0) : ∀ n ∈ rowL c, 0 ≤ n ∧ n < 10000000 := by
  unfold cCheck at h
  by_cases h1 : aCheck c.a = 0
  case neg => rw [if_pos h1] at h; exact absurd h h1
  rw [if_neg (by simp [h1])] at h
  obtain ⟨⟨b1, b2⟩, ⟨b3, b4⟩, ⟨v1, v2⟩, j0, j1, j2, j3⟩ := small_ac h1
  have hi : cIns c = true := by cases e : cIns c <;> simp [e] at h ⊢
  unfold cIns at hi
  unfold vLoads vOk1 at v1
  unfold jOk1 jIn at j0 j1 j2 j3
  unfold vIn at hi v1 v2
  unfold bIn at b1 b2 b3 b4
  simp only [Bool.and_eq_true, decide_eq_true_eq] at hi v1 v2 j0 j1 j2 j3 b1 b2 b3 b4
  intro n hn
  simp only [rowL, List.mem_cons, List.not_mem_nil, or_false] at hn
  rcases hn with rfl | rfl | rfl | rfl | rfl | rfl | rfl | rfl | rfl | rfl | rfl | rfl | rfl | rfl | rfl | rfl | rfl | rfl | rfl | rfl | rfl | rfl | rfl | rfl <;> omega
/-- the numbers of field s -/
def nmS (l : List Int) (s : Nat) : List Int := (l.drop (stN s)).take (cntN s)
/-- the text of field s -/
def fTx (l : List Int) (s : Nat) : Tx := (keyB s).data.toList ++ 61 :: jn 44 ((nmS l s).map dg)
theorem texts_all (l : List Int) (h : l.length = 24) : jn 59 ((List.range 12).map (fTx l)) = pText cFd l := by
  have hc := cat_all cFd ((List.range 12).map fun s => (nmS l s).map dg) cFd_ok.one (by
    obtain ⟨a0, a1, a2, a3, a4, a5, a6, a7, a8, a9, a10, a11, a12, a13, a14, a15, a16, a17, a18, a19, a20, a21, a22, a23, rfl⟩ := list24 h
    exact ⟨rfl, rfl, rfl, rfl, rfl, rfl, rfl, rfl, rfl, rfl, rfl, rfl, trivial⟩)
  have hf : ((List.range 12).map fun s => (nmS l s).map dg).flatten = l.map dg := by
    obtain ⟨a0, a1, a2, a3, a4, a5, a6, a7, a8, a9, a10, a11, a12, a13, a14, a15, a16, a17, a18, a19, a20, a21, a22, a23, rfl⟩ := list24 h
    rfl
  have ht : texts cFd ((List.range 12).map fun s => (nmS l s).map dg) = (List.range 12).map (fTx l) := rfl
  rw [← ht, ← hc, hf]; rfl
def cPrint (c : CC) : Tx × Int := if cCheck c = 0 then (pText cFd (rowL c), 0) else ([], cCheck c)
end Go.Proofs.YtfbllioegeadfaaDoor
