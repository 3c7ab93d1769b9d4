/- A config's text in plain words: read part by part, and read from left to right, it is the same. No program in sight. -/
import Derived.Test.YtfbllioegeadfaaDoorCfP
namespace Go.Proofs.YtfbllioegeadfaaDoor
set_option linter.unusedSimpArgs false
set_option linter.unusedVariables false

theorem noD_app {p t : Tx} (h0 : p ≠ []) (h : noD p) : noD (p ++ t) := by
  cases p with
  | nil => exact absurd rfl h0
  | cons b p => intro x hx; exact h x (by simpa using hx)
theorem noD_cat {ps ds : List Tx} (hps : ∀ p ∈ ps, p ≠ [] ∧ noD p) : noD (cat ps ds) := by
  cases ps with
  | nil => intro b hb; simp [cat] at hb
  | cons p ps =>
    cases ds with
    | nil => intro b hb; simp [cat] at hb
    | cons d ds =>
      unfold cat
      rw [List.append_assoc]
      exact noD_app (hps p (by simp)).1 (hps p (by simp)).2
theorem rRun_to : ∀ (ps : List Tx) (t : Tx) (l : List Int), rRun ps t = some l → ∃ ds : List Tx, ds.length = ps.length ∧ t = cat ps ds ∧ nums ds = some l
  | [], t, l, h => by
    unfold rRun at h
    by_cases ht : t = []
    · rw [if_pos ht] at h
      injection h with h
      subst h ht
      exact ⟨[], rfl, rfl, rfl⟩
    · rw [if_neg ht] at h; cases h
  | p :: ps, t, l, h => by
    unfold rRun at h
    by_cases hp : p.isPrefixOf t = true
    · rw [if_pos hp] at h
      simp only [Option.bind_eq_some_iff, Option.map_eq_some_iff] at h
      obtain ⟨⟨n, r⟩, hn, a, ha, rfl⟩ := h
      obtain ⟨d, hd, he⟩ := rNum_some hn
      obtain ⟨ds, h1, h2, h3⟩ := rRun_to ps r a ha
      obtain ⟨q, hq⟩ := List.isPrefixOf_iff_prefix.1 hp
      refine ⟨d :: ds, by simp [h1], ?_, by simp only [nums, hd, h3, Option.bind_some, Option.map_some]⟩
      have hdr : t.drop p.length = q := by rw [← hq]; exact List.drop_left
      rw [hdr] at he
      rw [← hq, he, h2, cat, List.append_assoc]
    · rw [if_neg hp] at h; cases h
theorem rRun_of : ∀ (ps ds : List Tx) (l : List Int), (∀ p ∈ ps, p ≠ [] ∧ noD p) → ds.length = ps.length → nums ds = some l → rRun ps (cat ps ds) = some l
  | [], [], l, _, _, h => by simp [nums] at h; subst h; rfl
  | [], _ :: _, _, _, h, _ => by simp at h
  | _ :: _, [], _, _, h, _ => by simp at h
  | p :: ps, d :: ds, l, hps, hl, h => by
    simp only [nums, Option.bind_eq_some_iff, Option.map_eq_some_iff] at h
    obtain ⟨n, hn, a, ha, rfl⟩ := h
    have ih := rRun_of ps ds a (fun q hq => hps q (by simp [hq])) (by simpa using hl) ha
    have hnd := noD_cat (ds := ds) (fun q hq => hps q (by simp [hq]) : ∀ q ∈ ps, q ≠ [] ∧ noD q)
    unfold rRun
    have e : cat (p :: ps) (d :: ds) = p ++ (d ++ cat ps ds) := by rw [cat, List.append_assoc]
    rw [e, if_pos (List.isPrefixOf_iff_prefix.2 (List.prefix_append _ _)), List.drop_left, rNum_of d _ n hn hnd]
    simp only [Option.bind_some, ih, Option.map_some]

abbrev Fd := List (Tx × Nat)
def oFill (k : Nat) (t : Tx) : Option (List Int) := if (spl 44 t).length = k then nums (spl 44 t) else none
def oRead : Fd → List Tx → Option (List Int)
  | [], [] => some []
  | [], _ :: _ => none
  | _ :: _, [] => none
  | f :: fs, p :: ps => if (f.1 ++ [61]).isPrefixOf p = true then (oFill f.2 (p.drop (f.1 ++ [61]).length)).bind fun a => (oRead fs ps).map (a ++ ·) else none
def fieldT (f : Tx × Nat) (ds : List Tx) : Tx := f.1 ++ 61 :: jn 44 ds
def fits : Fd → List (List Tx) → Prop
  | [], [] => True
  | f :: fs, d :: ds => d.length = f.2 ∧ fits fs ds
  | _, _ => False
def texts : Fd → List (List Tx) → List Tx
  | f :: fs, d :: ds => fieldT f d :: texts fs ds
  | _, _ => []
theorem oRead_to : ∀ (fs : Fd) (ps : List Tx) (l : List Int), oRead fs ps = some l → ∃ dss, fits fs dss ∧ ps = texts fs dss ∧ nums dss.flatten = some l
  | [], [], l, h => by simp [oRead] at h; subst h; exact ⟨[], trivial, rfl, rfl⟩
  | [], _ :: _, l, h => by simp [oRead] at h
  | _ :: _, [], l, h => by simp [oRead] at h
  | f :: fs, p :: ps, l, h => by
    unfold oRead at h
    by_cases hp : (f.1 ++ [61]).isPrefixOf p = true
    · rw [if_pos hp] at h
      simp only [Option.bind_eq_some_iff, Option.map_eq_some_iff] at h
      obtain ⟨a, ha, b, hb, rfl⟩ := h
      obtain ⟨dss, h1, h2, h3⟩ := oRead_to fs ps b hb
      obtain ⟨q, hq⟩ := List.isPrefixOf_iff_prefix.1 hp
      have hdr : p.drop (f.1 ++ [61]).length = q := by rw [← hq]; exact List.drop_left
      rw [hdr] at ha
      unfold oFill at ha
      by_cases hk : (spl 44 q).length = f.2
      · rw [if_pos hk] at ha
        refine ⟨spl 44 q :: dss, ⟨hk, h1⟩, ?_, by rw [List.flatten_cons]; exact nums_app _ _ _ _ ha h3⟩
        rw [texts, h2, fieldT, jn_spl, ← hq]; simp
      · rw [if_neg hk] at ha; cases ha
    · rw [if_neg hp] at h; cases h
theorem num_no {d : Tx} {n : Int} (h : numS d = some n) (c : UInt8) (hc : isD c = false) : c ∉ d := fun hm => by
  have := List.all_eq_true.1 (numS_some h).2.1 c hm
  rw [hc] at this; cases this
theorem nums_no : ∀ {ds : List Tx} {l : List Int}, nums ds = some l → ∀ (c : UInt8), isD c = false → ∀ d ∈ ds, c ∉ d
  | [], _, _, _, _, d, hd => by simp at hd
  | t :: r, l, h, c, hc, d, hd => by
    simp only [nums, Option.bind_eq_some_iff, Option.map_eq_some_iff] at h
    obtain ⟨n, hn, a, ha, rfl⟩ := h
    rcases List.mem_cons.1 hd with rfl | hd
    · exact num_no hn c hc
    · exact nums_no ha c hc d hd
theorem oRead_of : ∀ (fs : Fd) (dss : List (List Tx)) (l : List Int), (∀ f ∈ fs, 1 ≤ f.2) → fits fs dss → nums dss.flatten = some l → oRead fs (texts fs dss) = some l
  | [], [], l, _, _, h => by simp [nums] at h; subst h; rfl
  | [], _ :: _, _, _, h, _ => by simp [fits] at h
  | _ :: _, [], _, _, h, _ => by simp [fits] at h
  | f :: fs, d :: dss, l, h1, hf, h => by
    rw [List.flatten_cons] at h
    obtain ⟨a, b, rfl, ha, hb⟩ := nums_part _ _ _ h
    have ih := oRead_of fs dss b (fun q hq => h1 q (by simp [hq])) hf.2 hb
    have hd : d ≠ [] := fun e => by have := h1 f (by simp); have := hf.1; rw [e] at this; simp at this; omega
    have hs : spl 44 (jn 44 d) = d := spl_jn 44 d hd (nums_no ha 44 (by decide))
    unfold texts oRead
    have e : fieldT f d = (f.1 ++ [61]) ++ jn 44 d := by unfold fieldT; simp
    rw [e, if_pos (List.isPrefixOf_iff_prefix.2 (List.prefix_append _ _)), List.drop_left, oFill, hs, if_pos hf.1, ha]
    simp only [Option.bind_some, ih, Option.map_some]
def pxF (lead : Tx) (f : Tx × Nat) : List Tx := (lead ++ f.1 ++ [61]) :: List.replicate (f.2 - 1) [44]
def pxr (fs : Fd) : List Tx := fs.flatMap (pxF [59])
def pxs : Fd → List Tx
  | [] => []
  | f :: fs => pxF [] f ++ pxr fs
def tl (c : UInt8) (l : List Tx) : Tx := (l.map (c :: ·)).flatten
theorem jn_tl (c : UInt8) : ∀ (x : Tx) (r : List Tx), jn c (x :: r) = x ++ tl c r
  | x, [] => by simp [jn, tl]
  | x, y :: r => by rw [jn_cons _ _ _ (by simp), jn_tl c y r]; simp [tl]
theorem cat_rep (ps es : List Tx) : ∀ (ds : List Tx), cat (List.replicate ds.length [44] ++ ps) (ds ++ es) = tl 44 ds ++ cat ps es
  | [] => by simp [tl]
  | d :: ds => by
    rw [List.length_cons, List.replicate_succ, List.cons_append, List.cons_append, cat, cat_rep ps es ds]
    simp [tl]
theorem cat_field (lead : Tx) (f : Tx × Nat) (d ps es : List Tx) (h1 : 1 ≤ f.2) (hd : d.length = f.2) : cat (pxF lead f ++ ps) (d ++ es) = lead ++ fieldT f d ++ cat ps es := by
  cases d with
  | nil => simp at hd; omega
  | cons x d =>
    have e : f.2 - 1 = d.length := by simp at hd; omega
    rw [pxF, e, List.cons_append, List.cons_append, cat, cat_rep, fieldT, jn_tl]
    simp
theorem cat_rest : ∀ (fs : Fd) (dss : List (List Tx)), (∀ f ∈ fs, 1 ≤ f.2) → fits fs dss → cat (pxr fs) dss.flatten = tl 59 (texts fs dss)
  | [], [], _, _ => rfl
  | [], _ :: _, _, h => by simp [fits] at h
  | _ :: _, [], _, h => by simp [fits] at h
  | f :: fs, d :: dss, h1, h => by
    have ih := cat_rest fs dss (fun q hq => h1 q (by simp [hq])) h.2
    rw [List.flatten_cons, pxr, List.flatMap_cons, cat_field [59] f d _ _ (h1 f (by simp)) h.1]
    rw [show fs.flatMap (pxF [59]) = pxr fs from rfl, ih, texts, tl, tl, List.map_cons, List.flatten_cons]
    simp
theorem cat_all (fs : Fd) (dss : List (List Tx)) (h1 : ∀ f ∈ fs, 1 ≤ f.2) (h : fits fs dss) : cat (pxs fs) dss.flatten = jn 59 (texts fs dss) := by
  cases fs with
  | nil =>
    cases dss with
    | nil => rfl
    | cons _ _ => simp [fits] at h
  | cons f fs =>
    cases dss with
    | nil => simp [fits] at h
    | cons d dss =>
      rw [pxs, List.flatten_cons, cat_field [] f d _ _ (h1 f (by simp)) h.1, cat_rest fs dss (fun q hq => h1 q (by simp [hq])) h.2, texts, jn_tl]
      simp
theorem pxF_len (lead : Tx) (f : Tx × Nat) (h : 1 ≤ f.2) : (pxF lead f).length = f.2 := by simp [pxF]; omega
theorem regroup : ∀ (fs : Fd) (ds : List Tx), (∀ f ∈ fs, 1 ≤ f.2) → ds.length = (pxr fs).length → ∃ dss, fits fs dss ∧ dss.flatten = ds
  | [], ds, _, h => ⟨[], trivial, by simp [pxr] at h; rw [h]; rfl⟩
  | f :: fs, ds, h1, h => by
    rw [pxr, List.flatMap_cons, List.length_append, pxF_len _ _ (h1 f (by simp)), show fs.flatMap (pxF [59]) = pxr fs from rfl] at h
    obtain ⟨dss, h2, h3⟩ := regroup fs (ds.drop f.2) (fun q hq => h1 q (by simp [hq])) (by rw [List.length_drop]; omega)
    exact ⟨ds.take f.2 :: dss, ⟨by rw [List.length_take]; omega, h2⟩, by rw [List.flatten_cons, h3, List.take_append_drop]⟩
theorem pxs_len (fs : Fd) (h1 : ∀ f ∈ fs, 1 ≤ f.2) : (pxs fs).length = (pxr fs).length := by
  cases fs with
  | nil => rfl
  | cons f fs =>
    have e : pxr (f :: fs) = pxF [59] f ++ pxr fs := by unfold pxr; rw [List.flatMap_cons]
    show (pxF [] f ++ pxr fs).length = _
    rw [e, List.length_append, List.length_append, pxF_len _ _ (h1 f (by simp)), pxF_len _ _ (h1 f (by simp))]
theorem jn_no (c s : UInt8) (hc : c ≠ s) : ∀ (l : List Tx), (∀ x ∈ l, c ∉ x) → c ∉ jn s l
  | [], _ => by simp [jn]
  | [x], h => h x (by simp)
  | x :: y :: r, h => by
    rw [jn_cons _ _ _ (by simp), List.mem_append, List.mem_cons, not_or, not_or]
    exact ⟨h x (by simp), hc, jn_no c s hc (y :: r) (fun z hz => h z (by simp at hz ⊢; exact .inr hz))⟩
theorem texts_no : ∀ (fs : Fd) (dss : List (List Tx)), (∀ f ∈ fs, (59 : UInt8) ∉ f.1) → (∀ d ∈ dss.flatten, (59 : UInt8) ∉ d) → ∀ x ∈ texts fs dss, (59 : UInt8) ∉ x
  | [], _, _, _, x, hx => by simp [texts] at hx
  | _ :: _, [], _, _, x, hx => by simp [texts] at hx
  | f :: fs, d :: dss, h1, h2, x, hx => by
    rw [texts] at hx
    rcases List.mem_cons.1 hx with rfl | hx
    · unfold fieldT
      rw [List.mem_append, List.mem_cons, not_or, not_or]
      exact ⟨h1 f (by simp), by decide, jn_no 59 44 (by decide) d (fun z hz => h2 z (by rw [List.flatten_cons]; exact List.mem_append.2 (.inl hz)))⟩
    · exact texts_no fs dss (fun q hq => h1 q (by simp [hq])) (fun z hz => h2 z (by rw [List.flatten_cons]; exact List.mem_append.2 (.inr hz))) x hx
/-- fields that may be -/
structure FdOk (fs : Fd) : Prop where
  ne : fs ≠ []
  one : ∀ f ∈ fs, 1 ≤ f.2
  sep : ∀ f ∈ fs, (59 : UInt8) ∉ f.1
  px : ∀ p ∈ pxs fs, p ≠ [] ∧ noD p
/-- read part by part, and from left to right, is the same -/
theorem own_ref {fs : Fd} (h : FdOk fs) (s : Tx) : oRead fs (spl 59 s) = rRun (pxs fs) s := by
  have key : ∀ l, oRead fs (spl 59 s) = some l ↔ rRun (pxs fs) s = some l := by
    intro l
    constructor
    · intro h0
      obtain ⟨dss, h1, h2, h3⟩ := oRead_to fs _ l h0
      have e : s = cat (pxs fs) dss.flatten := by rw [cat_all fs dss h.one h1, ← h2, jn_spl]
      rw [e]
      refine rRun_of _ _ l h.px ?_ h3
      have hlen : ∀ (fs : Fd) (dss : List (List Tx)), (∀ f ∈ fs, 1 ≤ f.2) → fits fs dss → dss.flatten.length = (pxr fs).length := by
        intro fs
        induction fs with
        | nil => intro dss _ hf; cases dss with
          | nil => rfl
          | cons _ _ => simp [fits] at hf
        | cons f fs ih =>
          intro dss h1 hf
          cases dss with
          | nil => simp [fits] at hf
          | cons d dss =>
            rw [List.flatten_cons, List.length_append, pxr, List.flatMap_cons, List.length_append, pxF_len _ _ (h1 f (by simp)), hf.1, ih dss (fun q hq => h1 q (by simp [hq])) hf.2]
            rfl
      rw [hlen fs dss h.one h1, pxs_len fs h.one]
    · intro h0
      obtain ⟨ds, h1, h2, h3⟩ := rRun_to _ _ l h0
      obtain ⟨dss, h4, h5⟩ := regroup fs ds h.one (by rw [h1, pxs_len fs h.one])
      rw [← h5] at h2 h3
      rw [cat_all fs dss h.one h4] at h2
      have hne : texts fs dss ≠ [] := by
        cases hfs : fs with
        | nil => exact absurd hfs h.ne
        | cons f fs' =>
          rw [hfs] at h4
          cases dss with
          | nil => simp [fits] at h4
          | cons d dss => simp [texts]
      rw [h2, spl_jn 59 _ hne (texts_no fs dss h.sep (nums_no h3 59 (by decide)))]
      exact oRead_of fs dss l h.one h4 h3
  cases ha : oRead fs (spl 59 s) with
  | none =>
    cases hb : rRun (pxs fs) s with
    | none => rfl
    | some l => rw [(key l).2 hb] at ha; cases ha
  | some l => exact ((key l).1 ha).symm
end Go.Proofs.YtfbllioegeadfaaDoor
