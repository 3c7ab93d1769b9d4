/- Admit, the plain law of AdmitShut: a full load shuts, no load opens again. -/
import Derived.Test.YtolpiaehleefbaaRun18p
import Derived.Test.YtolpiaehleefbaaAdm3
import Derived.Test.YtolpiaehleefbaaSt18
namespace Go.Proofs.Ytolpiaehleefbaa
open Go.RowKit
set_option linter.unusedSimpArgs false
set_option linter.unusedVariables false

theorem shut_step {l s v N : Int} (hf : vFine l s v = true) (hs : s ≤ N) (hv : v ≤ N) (h0 : 0 ≤ N) (hN : N ≤ 1099511627776) :
    ∃ s', vStep (u3 50 75 90) (u3 40 60 80) 5 l s v 100 N = (3, s', -1) ∧ 0 ≤ s' ∧ s' ≤ N := by
  obtain ⟨hl, h2, h3⟩ := vFine_t hf
  have hn : vHeld N (max s v) 1099511627776 = N := by unfold vHeld; omega
  have hm : vMay (u3 50 75 90) (u3 40 60 80) 5 l s v = true := by simp [vMay, usual_v, hf]
  unfold vStep
  rw [hm, if_pos rfl, hn, show vHeld 100 0 100 = 100 from rfl]
  have h4 : l = 0 ∨ l = 1 ∨ l = 2 ∨ l = 3 := by omega
  rcases h4 with rfl | rfl | rfl | rfl
  · exact ⟨N, by unfold vStep1; rw [if_pos (by decide)]; rfl, h0, Int.le_refl _⟩
  · exact ⟨N, by unfold vStep1; rw [if_pos (by decide)]; rfl, h0, Int.le_refl _⟩
  · exact ⟨N, by unfold vStep1; rw [if_pos (by decide)]; rfl, h0, Int.le_refl _⟩
  · exact ⟨s, by unfold vStep1; rw [if_neg (by decide), if_pos (by decide)]; rfl, h2.1, hs⟩
/-- a level's state behind i ticks with nothing to do, the first one at T -/
def calmL (i : Nat) : Int := 3 - ((min (i / 6) 3 : Nat) : Int)
def calmV (T : Int) (i : Nat) : Int := if 18 ≤ i ∨ i % 6 = 0 then -1 else T + 6 * ((i / 6 : Nat) : Int)
theorem calm_bd (T : Int) (hT : 0 ≤ T) (i : Nat) : (0 ≤ calmL i ∧ calmL i ≤ 3) ∧ -1 ≤ calmV T i ∧ (calmV T i = -1 ∨ calmV T i < T + i) := by
  unfold calmL calmV
  refine ⟨by omega, ?_⟩
  split <;> omega
theorem calm_step {s T : Int} {i : Nat} (hi : i < 40) (hs : 0 ≤ s ∧ s ≤ T + i) (hT : 0 ≤ T ∧ T ≤ 1000000) :
    ∃ s', vStep (u3 50 75 90) (u3 40 60 80) 5 (calmL i) s (calmV T i) 0 (T + i) = (calmL (i + 1), s', calmV T (i + 1)) ∧ 0 ≤ s' ∧ s' ≤ T + i := by
  have hb := calm_bd T hT.1 i
  have hf : vFine (calmL i) s (calmV T i) = true := vFine_mk18 (by omega) (by omega) (by omega)
  have hm : vMay (u3 50 75 90) (u3 40 60 80) 5 (calmL i) s (calmV T i) = true := by simp [vMay, usual_v, hf]
  have hn : vHeld (T + i) (max s (calmV T i)) 1099511627776 = T + i := by unfold vHeld; omega
  unfold vStep
  rw [hm, if_pos rfl, hn, show vHeld 0 0 100 = 0 from rfl]
  have hq : i / 6 = 0 ∨ i / 6 = 1 ∨ i / 6 = 2 ∨ 18 ≤ i := by omega
  by_cases h18 : 18 ≤ i
  · have e1 : calmL i = 0 := by unfold calmL; omega
    have e2 : calmL (i + 1) = 0 := by unfold calmL; omega
    have e3 : calmV T (i + 1) = -1 := by unfold calmV; rw [if_pos (by omega)]
    rw [e1, e2, e3]
    exact ⟨s, by unfold vStep1; rw [if_neg (by decide), if_pos (by decide)]; rfl, hs⟩
  · obtain ⟨m, hm1, hm2⟩ : ∃ m : Nat, m < 3 ∧ i / 6 = m := ⟨i / 6, by omega, rfl⟩
    have e1 : calmL i = ((3 - m : Nat) : Int) := by unfold calmL; omega
    have ht : (calmL i).toNat = 3 - m := by omega
    clear hn
    have hA : ¬ (3 - m < vAsked (u3 50 75 90) 0 (3 - m)) := by
      have : m = 0 ∨ m = 1 ∨ m = 2 := by omega
      rcases this with rfl | rfl | rfl <;> decide
    have hD : ¬ (3 - m = 0 ∨ u3 40 60 80 (3 - m - 1) ≤ 0) := by
      have : m = 0 ∨ m = 1 ∨ m = 2 := by omega
      rcases this with rfl | rfl | rfl <;> decide
    rw [ht]
    unfold vStep1
    rw [if_neg hA, if_neg hD]
    by_cases hr : i % 6 = 0
    · have e4 : calmV T i = -1 := by unfold calmV; rw [if_pos (.inr hr)]
      have e5 : calmV T (i + 1) = T + i := by unfold calmV; rw [if_neg (by omega)]; omega
      have e6 : calmL (i + 1) = ((3 - m : Nat) : Int) := by unfold calmL; omega
      rw [e4, e5, e6, if_pos rfl, if_pos (by omega)]
      exact ⟨s, rfl, hs⟩
    · have e4 : calmV T i = T + 6 * (m : Int) := by unfold calmV; rw [if_neg (by omega)]; omega
      rw [e4, if_neg (show ¬ (T + 6 * (m : Int) = -1) by omega)]
      by_cases h5 : i % 6 = 5
      · have e5 : calmV T (i + 1) = -1 := by unfold calmV; rw [if_pos (by omega)]
        have e6 : calmL (i + 1) = ((3 - m : Nat) : Int) - 1 := by unfold calmL; omega
        rw [e5, e6, if_neg (by omega)]
        exact ⟨T + i, rfl, by omega, by omega⟩
      · have e5 : calmV T (i + 1) = T + 6 * (m : Int) := by unfold calmV; rw [if_neg (by omega)]; omega
        have e6 : calmL (i + 1) = ((3 - m : Nat) : Int) := by unfold calmL; omega
        rw [e5, e6, if_pos (by omega)]
        exact ⟨s, rfl, hs⟩
theorem fine_level {c : AC} {y : AS} (h : aFine c y = 0) {l s v : Int} (hf : vFine l s v = true) : aFine c { y with l := l, s := s, v := v } = 0 := by
  unfold aFine at *
  split at h
  · contradiction
  rename_i h1
  rw [if_neg h1]
  split at h
  · cases h
  rename_i h2
  have h3 : aGood c y = true := by simpa using h2
  have h4 : aGood c { y with l := l, s := s, v := v } = true := by
    unfold aGood at *
    simp only [Bool.and_eq_true] at h3 ⊢
    exact ⟨⟨h3.1.1, hf⟩, h3.2⟩
  rw [h4, if_neg (by simp)]
  exact h
/-- with nothing to do: behind i ticks -/
def Cm (y : AS) (T : Int) (i : Nat) (z : AS) : Prop := ∃ s, (0 ≤ s ∧ s ≤ T + i) ∧ z = { y with l := calmL i, s := s, v := calmV T i }
theorem Cm.step {b1 r1 b2 r2 : Int} {y z : AS} {T : Int} {i : Nat} (hy : aFine (mkC b1 r1 b2 r2) y = 0) (h : Cm y T i z) (hi : i < 40) (hT : 0 ≤ T ∧ T ≤ 1000000) : Cm y T (i + 1) (aTick (mkC b1 r1 b2 r2) z 0 (T + i)) := by
  obtain ⟨s, hs, rfl⟩ := h
  have hb := calm_bd T hT.1 i
  have hf := fine_level hy (vFine_mk18 (l := calmL i) (s := s) (v := calmV T i) (by omega) (by omega) (by omega))
  obtain ⟨s', e, h1, h2⟩ := calm_step hi hs hT
  unfold aTick
  rw [if_pos hf]
  dsimp only [mkC]
  rw [e]
  exact ⟨s', by omega, rfl⟩
theorem Cm.es {y z : AS} {T : Int} {i : Nat} (h : Cm y T i z) : z.es = y.es := by obtain ⟨s, _, rfl⟩ := h; rfl
theorem Cm.last {y z : AS} {T : Int} (h : Cm y T 40 z) : z.l = 0 := by obtain ⟨s, _, rfl⟩ := h; rfl
/-- what the full load leaves, and who asks then -/
theorem Rn.shut {b1 r1 b2 r2 : Int} {x : AS} {ins : List (Int × Int)} {N : Int} {k : Nat} {f : Nat → Int × Int} (h : Rn b1 r1 b2 r2 x ins N k f) (hk : k ≤ 900) {S : Int} (hS : 0 ≤ S ∧ S ≤ 65535) (draw : Int) :
    ∃ t y H, aTick (mkC b1 r1 b2 r2) x 100 (N + 1) = t ∧ aAsk (mkC b1 r1 b2 r2) t S (N + 1) draw = (y, 15, H) ∧ y.le = t.le ∧ t.es = x.es ∧ t.es.length ≤ 1000 ∧ y.es.length ≤ 1000 ∧ (uLo 3 ≤ H ∧ H ≤ uHi 3) ∧ aFine (mkC b1 r1 b2 r2) y = 0 ∧ Cm y (N + 2) 0 y ∧ (∀ e ∈ y.es, e.a ≤ N + 1) ∧ bFine b1 r1 y.t y.a = true ∧ y.a ≤ N + 1 := by
  have h1 := h.grows (by omega) (show (0 : Int) ≤ 1 by omega) (by omega)
  have h2 := h1.tick (by omega) 100
  have hN := h1.hN
  obtain ⟨s', e, e1, e2⟩ := shut_step h1.hv h1.hs.1 h1.hs.2 hN.1 (by omega)
  have hT : aTick (mkC b1 r1 b2 r2) x 100 (N + 1) = { x with l := 3, s := s', v := -1 } := by
    unfold aTick; rw [if_pos (h1.fine (by omega))]; dsimp only [mkC]; rw [e]
  rw [hT] at h2
  have hf := h2.fine (by omega)
  have hw : aWould (mkC b1 r1 b2 r2) { x with l := 3, s := s', v := -1 } S (N + 1) = 15 := by
    unfold aWould
    rw [if_neg (by simp [hf]), vIn_mk hS.1 hS.2, if_neg (by simp), if_pos (by rfl)]
  obtain ⟨h3, q1, q2⟩ := h2.sends (by omega)
  have hh := hint_in (l := 3) (by omega) draw
  refine ⟨_, aSend (mkC b1 r1 b2 r2) { x with l := 3, s := s', v := -1 } (N + 1), _, hT, aAsk_send hf hw (by omega) (by omega), q1, rfl, eCheck_len h.jn.hk, eCheck_len h3.jn.hk, ?_, h3.fine (by omega), ⟨s', by omega, rfl⟩, h3.jn.ha, h3.ha.1, h3.ha.2⟩
  unfold jWithin at hh
  simp only [Bool.and_eq_true] at hh
  exact jIn_t hh.2
/-- .. and who asks, behind all that -/
theorem Cm.opens {y z : AS} {N S draw : Int} (hf : aFine (mkC 8 2 3 1) y = 0) (hz : Cm y (N + 2) 40 z) (hN : 0 ≤ N ∧ N ≤ 100000) (hS : 0 ≤ S ∧ S ≤ 65535) (ha : ∀ e ∈ y.es, e.a ≤ N + 1) (hb : bFine 8 2 y.t y.a = true) (hya : y.a ≤ N + 1) :
    ∃ u, aAsk (mkC 8 2 3 1) z S (N + 60) draw = (u, 0, 0) ∧ u.es.length ≤ 2000 := by
  obtain ⟨s, hs, rfl⟩ := hz
  have hfz := fine_level hf (vFine_mk18 (l := calmL 40) (s := s) (v := calmV (N + 2) 40) (by decide) (by omega) (by show -1 ≤ (-1 : Int) ∧ (-1 : Int) ≤ _; omega))
  have hk : eCheck 3 1 y.es = 0 := (aFine_t hf).2.2.2.2.2
  have hcl : eClean 3 1 y.es (N + 60) = [] := clean_none (N := N + 1) hk ha (by omega) (by omega) (by omega)
  have hsm : sMay S = true := by simp [sMay]; omega
  have hle : eLevel 3 1 y.es S (N + 60) = 3 := by
    have h1 := level_clean hk hsm (N := N + 60) (N' := N + 60) (Int.le_refl _)
    rw [hcl] at h1
    rw [← h1, eLevel_of (by rfl) hsm, eOf_none (by simp)]
    exact full_level (by rfl) (N + 60)
  have hT : (eTake 3 1 y.es S (N + 60)).2 = 0 := by
    rcases eTake_law hk hsm (now := N + 60) (fun x hx => by have := ha x hx; omega) (by omega) (by omega) with ⟨e, e8⟩ | ⟨e, e1⟩ | ⟨e, _⟩
    · rw [hcl] at e8; simp at e8
    · omega
    · rw [e]
  have hw : aWould (mkC 8 2 3 1) { y with l := calmL 40, s := s, v := calmV (N + 2) 40 } S (N + 60) = 0 := by
    have hbl : bLevel 8 2 y.t y.a (N + 60) ≠ 0 := by
      rw [bLevel_f hb, bT_at (by omega) (by omega)]
      have := (bFine_t hb).2.1
      omega
    unfold aWould
    rw [if_neg (by simp [hfz]), vIn_mk hS.1 hS.2, if_neg (by simp), if_neg (by show ¬ (vAllows 0 0 = false); decide), if_neg hbl]
    exact hT
  exact ⟨_, aAsk_let hfz hw, by
    unfold aLet
    have h1 : y.es.length ≤ 1000 := eCheck_len hk
    have h2 := eTake_len18 3 1 y.es S (N + 60)
    dsimp only [mkC]
    omega⟩
end Go.Proofs.Ytolpiaehleefbaa
