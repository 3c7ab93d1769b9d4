/- ConfigBack's plain law: what is printed is parsed as it was; with a byte less it is none, or another one; what is parsed is printed as it was. No program in sight. -/
import Derived.Test.YtfbllioegeadfaaDoorCf9
import Derived.Test.YtfbllioegeadfaaDoorCf6
namespace Go.Proofs.YtfbllioegeadfaaDoor
open Go.RowKit
set_option linter.unusedSimpArgs false
set_option linter.unusedVariables false

theorem cCheck_row (c : CC) : cCheck (ofL (rowL c)) = cCheck c := rfl
theorem parse_print {c : CC} (h : cCheck c = 0) : cParse (pText cFd (rowL c)) = (ofL (rowL c), 0) := by
  have hr := text_read cFd_ok (rowL c) (show 24 = (pxs cFd).length by decide) (small_cc h)
  rw [← own_ref cFd_ok] at hr
  unfold cParse
  rw [hr]
  dsimp only
  rw [if_pos ((cCheck_row c).trans h)]
theorem parse_some {s : Tx} {y : CC} (h : cParse s = (y, 0)) : ∃ l, l.length = 24 ∧ y = ofL l ∧ cCheck y = 0 ∧ s = pText cFd l := by
  unfold cParse at h
  cases ho : oRead cFd (spl 59 s) with
  | none => rw [ho] at h; simp at h
  | some l =>
    rw [ho] at h
    dsimp only at h
    have hl := read_len ho
    rw [own_ref cFd_ok] at ho
    by_cases hc : cCheck (ofL l) = 0
    · rw [if_pos hc] at h
      have e := (Prod.mk.inj h).1
      exact ⟨l, hl, e.symm, by rw [← e]; exact hc, (read_text ho).1⟩
    · rw [if_neg hc] at h
      exact absurd (Prod.mk.inj h).2 hc
theorem print_parse {s : Tx} {y : CC} (h : cParse s = (y, 0)) : cPrint y = (s, 0) := by
  obtain ⟨l, hl, rfl, hc, rfl⟩ := parse_some h
  unfold cPrint
  rw [if_pos hc, rowL_of l hl]
theorem parse_less {c z : CC} {t : Tx} (h : cParse t = (z, 0)) (hs : cSame c z = true) : t = pText cFd (rowL c) := by
  obtain ⟨l, hl, rfl, hc, rfl⟩ := parse_some h
  rw [(cSame_iff _ _).1 hs, rowL_of l hl]
theorem print_ways (c : CC) : (cCheck c = 0 ∧ cPrint c = (pText cFd (rowL c), 0)) ∨ (cCheck c ≠ 0 ∧ cPrint c = ([], cCheck c)) := by
  unfold cPrint
  by_cases h : cCheck c = 0
  · exact .inl ⟨h, by rw [if_pos h]⟩
  · exact .inr ⟨h, by rw [if_neg h]⟩
theorem cat_len : ∀ ps ds : List Tx, (∀ d ∈ ds, d.length ≤ 7) → (cat ps ds).length ≤ ps.flatten.length + 7 * ds.length
  | [], _, _ => by simp [cat]
  | _ :: _, [], _ => by simp [cat]
  | p :: ps, d :: ds, h => by
    have h1 := cat_len ps ds (fun x hx => h x (by simp [hx]))
    have h2 := h d (by simp)
    rw [cat, List.length_append, List.length_append, List.flatten_cons, List.length_append, List.length_cons]
    omega
theorem parse_nil : (cParse []).2 = 4 := by kernel_rfl
theorem pText_len {c : CC} (h : cCheck c = 0) : 1 ≤ (pText cFd (rowL c)).length ∧ (pText cFd (rowL c)).length ≤ 400 := by
  constructor
  · cases e : pText cFd (rowL c) with
    | nil =>
      have h1 := parse_print h
      rw [e] at h1
      have h2 := parse_nil
      rw [h1] at h2
      have h3 : (0 : Int) = 4 := h2
      exact absurd h3 (by decide)
    | cons a b => simp
  · have h1 := cat_len (pxs cFd) ((rowL c).map dg) (by
      intro d hd
      obtain ⟨n, hn, rfl⟩ := List.mem_map.1 hd
      have := small_cc h n hn
      exact dg_len this.1 this.2)
    have h2 : (pxs cFd).flatten.length ≤ 100 := by decide
    have h3 : ((rowL c).map dg).length = 24 := rfl
    unfold pText
    omega
end Go.Proofs.YtfbllioegeadfaaDoor
