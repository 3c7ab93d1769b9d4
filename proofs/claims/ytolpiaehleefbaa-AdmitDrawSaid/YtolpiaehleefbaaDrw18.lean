/- Admit, the plain law of AdmitDraw: what is told of a refusal hangs on the draw alone. -/
import Derived.Test.YtolpiaehleefbaaRun18p
namespace Go.Proofs.Ytolpiaehleefbaa
open Go.RowKit
set_option linter.unusedSimpArgs false
set_option linter.unusedVariables false

theorem hint_width {l : Int} (h : 0 ≤ l ∧ l ≤ 3) : (1 ≤ jWidth uLo uHi l ∧ jWidth uLo uHi l ≤ 10000) ∧ 1 ≤ uLo l.toNat ∧ uLo l.toNat ≤ 10000 := by
  have hm : jMay uLo uHi l = true := by simp [jMay, jIn, h, usual_j]
  have hr := jCheck_t usual_j (k := l.toNat) (by omega)
  unfold jWidth
  rw [hm, if_pos rfl]
  omega
theorem Rn.draws {b1 r1 b2 r2 : Int} {x : AS} {ins : List (Int × Int)} {N : Int} {k : Nat} {f : Nat → Int × Int} (h : Rn b1 r1 b2 r2 x ins N k f) (hk : k ≤ 990) {s : Nat} (hs : s < 10) (d1 d2 : Int) :
    ∃ y E H1 H2, aAsk (mkC b1 r1 b2 r2) x s N d1 = (y, E, H1) ∧ aAsk (mkC b1 r1 b2 r2) x s N d2 = (y, E, H2) ∧ y.es.length ≤ 1000 ∧ (0 ≤ x.l ∧ x.l ≤ 3) ∧
      ((E = 0 ∧ H1 = 0 ∧ H2 = 0) ∨ (E ≠ 0 ∧ H1 - uLo x.l.toNat = d1 % jWidth uLo uHi x.l ∧ H2 - uLo x.l.toNat = d2 % jWidth uLo uHi x.l)) := by
  have hl := (vFine_t h.hv).1
  rcases h.ask (by omega) hs with ⟨e1, e2, e3, e4, e5, f', hr⟩ | ⟨E, e1, e2, e3, e4, e5⟩
  · exact ⟨_, _, _, _, aAsk_let (h.fine (by omega)) e1, aAsk_let (h.fine (by omega)) e1, eCheck_len hr.jn.hk, hl, .inl ⟨rfl, rfl, rfl⟩⟩
  · obtain ⟨hr, q1, q2⟩ := h.sends (by omega)
    exact ⟨_, _, _, _, aAsk_send (h.fine (by omega)) e1 e2 e3, aAsk_send (h.fine (by omega)) e1 e2 e3, eCheck_len hr.jn.hk, hl, .inr ⟨e3, hint_draw hl d1, hint_draw hl d2⟩⟩
end Go.Proofs.Ytolpiaehleefbaa
