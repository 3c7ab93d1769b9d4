/- Law 15: WheelPlays, walked. -/
import Derived.Test.YtbljiohdfjmhfaaLaw15c
import Derived.Test.YtbljiohdfjmhfaaRf15c
import Derived.Test.YtbljiohdfjmhfaaRel6
import Derived.Test.YtbljiohdfjmhfaaRf15d
import Derived.Test.YtbljiohdfjmhfaaHeld
import Derived.Deep.DeepCutAuto
import Derived.Deep.CutBlock
namespace Go.Proofs.Ytbljiohdfjmhfaa
open Go.RowKit Go.Sort Go.Maps
open Dn (ltP)
set_option linter.unusedSimpArgs false
set_option linter.unusedVariables false

structure AcW where
  kind : Int
  id : Int
  at_ : Int
instance : Inhabited AcW := ⟨⟨0, 0, 0⟩⟩
abbrev awC (x : AcW) : List Value := [.int .u8 x.kind, .int .i64 x.id, .int .i64 x.at_]
abbrev awR (l : List AcW) : List Value := l.flatMap awC
theorem awR_length (l : List AcW) : (awR l).length = 3 * l.length := by
  induction l with
  | nil => rfl
  | cons a l ih => simp only [awR, List.flatMap_cons, List.length_append, List.length_cons] at *; simp only [List.length_nil] at *; omega
theorem awR_get (l : List AcW) (k : Nat) (h : k < l.length) : (awR l)[k * 3]? = some (.int .u8 l[k].kind) ∧ (awR l)[k * 3 + 1]? = some (.int .i64 l[k].id) ∧ (awR l)[k * 3 + 2]? = some (.int .i64 l[k].at_) := by
  induction l generalizing k with
  | nil => simp at h
  | cons a l ih =>
    cases k with
    | zero => simp [awR]
    | succ k =>
      have := ih k (by simpa using h)
      have e : ∀ j, (awR (a :: l))[(k + 1) * 3 + j]? = (awR l)[k * 3 + j]? := fun j => by
        rw [show (k + 1) * 3 + j = (k * 3 + j) + 3 by omega]
        simp [awR]
      have e0 := e 0
      simp only [Nat.add_zero] at e0
      rw [e0, e 1, e 2]
      simpa using this
theorem Rd.aw {w : World} {B : Nat} {A : Option Addr} {l : List AcW} (h : Rd w B A (awR l)) {k : Nat} (hk : k < l.length) :
    ∃ ad, A = some ad ∧ ad.block < B ∧ w.cell? (ad.add (k * 3)) = some (.int .u8 l[k].kind) ∧ w.cell? { block := (ad.add (k * 3)).block, off := (ad.add (k * 3)).off + 1 } = some (.int .i64 l[k].id) ∧
      w.cell? { block := (ad.add (k * 3)).block, off := (ad.add (k * 3)).off + 2 } = some (.int .i64 l[k].at_) := by
  obtain ⟨ad, e, hb, hc⟩ := h (by intro e; have := awR_length l; rw [e] at this; simp at this; omega)
  obtain ⟨q0, q1, q2⟩ := awR_get l k hk
  have f : ∀ (x : Addr) (i : Nat), i ≠ 0 → x.add i = { block := x.block, off := x.off + i } := fun x i hi => by simp [Addr.add, hi]
  exact ⟨ad, e, hb, hc _ _ q0, by rw [← f _ 1 (by omega), add_add']; exact hc _ _ q1, by rw [← f _ 2 (by omega), add_add']; exact hc _ _ q2⟩
theorem wfr {x : Int} (h : -9223372036854775808 ≤ x ∧ x ≤ 9223372036854775807) : (Lit.int .i64 x).wf = true := by
  simp [Lit.wf, IntKind.min, IntKind.max, IntKind.signed, IntKind.bits]; omega
theorem so_of {l : IL} (h : SoR l) : SoL l := by
  unfold SoL
  refine List.Pairwise.imp ?_ h
  intro p q hpq hqp
  unfold ltP at hqp
  unfold Ltr at hpq
  omega
theorem SI_n (A B : Option Addr) (c d n : Nat) (xs : List Int) (hx : xs.length = n) (hl : xs.length ≤ maxLen) (w : World) (ha : Rd w w.heap.size A (ints xs)) (hb : Rd w w.heap.size B (ints xs)) :
    Calls Try.prog 26 #[.slice A n c, .slice B n d] w fun e w' => e = .returned (.bool true) ∧ ∃ q, w.drewN q = w' := by
  subst hx; exact (SameInts_any A B c d xs xs w hl ha hb).lit (by simp)
theorem SD_self (A B : Option Addr) (c d : Nat) (l : IL) (w : World) (hl : l.length ≤ 1000) (ha : Rd w w.heap.size A (duR l)) (hb : Rd w w.heap.size B (duR l)) :
    Calls Try.prog 16 #[.slice A l.length c, .slice B l.length d] w fun e w' => e = .returned (.bool true) ∧ ∃ q, w.drewN q = w' := (SameDue_any A B c d l l w hl ha hb).lit (by simp)
theorem due_row (w : World) (A : Option Addr) (c : Nat) (l : IL) (hl : l.length ≤ 1000) (ha : Rd w w.heap.size A (duR l)) :
    Calls Try.prog 13 #[.slice A l.length c] w fun e w' => ∃ B d, e = .returned (.slice B l.length d) ∧ Rd w' w'.heap.size B (duR l) ∧ Below w.heap.size w w' :=
  (due_any w A c l hl ha).mono fun e w' ⟨B, d, he, ho, hb⟩ => ⟨B, d, he, own_rd ho, hb⟩

/-- the wheel and the reference's, side by side -/
structure Pl (W : World) (gv wv : Nat) (av : Addr) (rv : List Nat) (gM n : Nat) (T : Int) (L : IL) (A : Option Addr) (c : Nat) : Prop where
  v : Wh W gv wv av rv ⟨n, T, L⟩
  so : SoR L
  cap : L.length ≤ c ∧ c ≤ 9223372036854775807
  rd : Rd W W.heap.size A (duR L)
  fr : Fr (gM + 1) A
  ty : TyA W 65 A
  hf : ∀ i ∈ fpOf gv wv av rv, i < gM
section
variable {W W' : World} {gv wv : Nat} {av : Addr} {rv : List Nat} {gM n : Nat} {T : Int} {L : IL} {A : Option Addr} {c : Nat}
theorem Pl.step (h : Pl W gv wv av rv gM n T L A c) (hb : Below W.heap.size W W') : Pl W' gv wv av rv gM n T L A c :=
  ⟨h.v.step hb, h.so, h.cap, h.rd.step hb, h.fr, h.ty.step hb, h.hf⟩
theorem Pl.few (h : Pl W gv wv av rv gM n T L A c) : L.length ≤ 256 := h.v.few
theorem Rd.farQ {w : World} {A : Option Addr} {xs : List Value} (h : Rd w w.heap.size A xs) {p : Addr} (hn : ∀ ad, A = some ad → ad.block ≠ p.block) (u : Value) : Rd (w.setCell p u) (w.setCell p u).heap.size A xs := fun hx => by
  obtain ⟨ad, e, hb, hc⟩ := h hx
  refine ⟨ad, e, by simpa [World.setCell] using hb, fun j v hj => ?_⟩
  have h1 := hc j v hj
  have h2 := Below.heap_setCell w p u ad.block (hn ad e)
  unfold World.cell? at h1 ⊢
  rw [add_block] at h1 ⊢
  rw [h2]; exact h1
theorem Pl.out (h : Pl W gv wv av rv gM n T L A c) {p : Addr} (h1 : p.block ∉ fpOf gv wv av rv) (h2 : ∀ ad, A = some ad → ad.block ≠ p.block) (u : Value) : Pl (W.setCell p u) gv wv av rv gM n T L A c :=
  ⟨h.v.far h1 u, h.so, h.cap, h.rd.farQ h2 u, h.fr, h.ty.setc _ _, h.hf⟩
theorem Pl.at_ (h : Pl W gv wv av rv gM n T L A c) (i : Nat) (u : Value) : Pl (W.setCell ⟨gM, i, none⟩ u) gv wv av rv gM n T L A c :=
  h.out (fun hm => by have := h.hf _ hm; simp only at this; omega) (fun ad e => by have := h.fr ad e; simp only; omega) u
theorem Pl.new (h : Pl W gv wv av rv gM n T L A c) {g : Nat} {cs : List Value} (hk : Bk W g 30 cs) (hg : gM ≤ g) (i : Nat) (u : Value) : Pl (W.setCell ⟨g, i, none⟩ u) gv wv av rv gM n T L A c :=
  h.out (fun hm => by have := h.hf _ hm; simp only at this; omega) (h.ty.ne hk (by decide)) u
end
theorem TyA.fp {fp : List Nat} {a b : World} {T : TypeId} {A : Option Addr} (h : TyA a T A) (f : FpW fp a b) (hn : ∀ ad, A = some ad → ad.block ∉ fp) : TyA b T A := fun ad e => by
  obtain ⟨cs, fr, h1⟩ := h ad e
  exact ⟨cs, fr, (f.block _ (Array.getElem?_eq_some_iff.1 h1).1 (hn ad e)).trans h1⟩
theorem Pl.wheel {W W' : World} {gv wv : Nat} {av : Addr} {rv : List Nat} {gM n : Nat} {T T' : Int} {L L' : IL} {A : Option Addr} {c : Nat} (h : Pl W gv wv av rv gM n T L A c) (f : FpW (fpOf gv wv av rv) W W') : Rd W' W'.heap.size A (duR L) ∧ TyA W' 65 A := by
  have hn : ∀ ad, A = some ad → ad.block ∉ fpOf gv wv av rv := fun ad e hm => by have := h.hf _ hm; have := h.fr ad e; omega
  exact ⟨f.rd h.rd hn, h.ty.fp f hn⟩
def drP (id : Int) (L M : IL) : Prop := M = dropK id L
def inP (id t : Int) (L M : IL) : Prop := SoR M ∧ M.Perm ((id, t) :: dropK id L)
/-- what Stop and Set give back -/
def WAt (lo n : Nat) (T : Int) (b : Value) (Pr : IL → Prop) : MSp := ⟨fun v => ∃ M B d, v = .tuple #[rwV n T B (M : IL).length d, b], fun v w => ∃ M B d, v = .tuple #[rwV n T B (M : IL).length d, b] ∧ Pr M ∧ M.length ≤ d ∧ d ≤ 9223372036854775807 ∧ Rd w w.heap.size B (duR M) ∧ Fr lo B ∧ TyA w 65 B⟩
theorem sts_w (lo n : Nat) (T : Int) (b : Value) (Pr : IL → Prop) : ∀ v, Stays ((WAt lo n T b Pr).S v) := fun v w w' ⟨M, B, d, e, h1, h2, h3, h4, h5, h6⟩ hb => ⟨M, B, d, e, h1, h2, h3, h4.step hb, h5, h6.step hb⟩
theorem w_of {lo n : Nat} {T : Int} {b : Value} {Pr : IL → Prop} {M0 : IL} {B d : _} {w : World} (h : (WAt lo n T b Pr).S (.tuple #[rwV n T B M0.length d, b]) w) : ∃ M : IL, M.length = M0.length ∧ Pr M ∧ M.length ≤ d ∧ d ≤ 9223372036854775807 ∧ Rd w w.heap.size B (duR M) ∧ Fr lo B ∧ TyA w 65 B := by
  obtain ⟨M, B', d', e, h1, h2, h3, h4, h5, h6⟩ := h
  injection e with e
  have e2 := congrArg (fun a : Array Value => a[0]?) e
  simp at e2
  obtain ⟨e3, e4, e5⟩ := e2
  subst e3 e5
  exact ⟨M, e4.symm, h1, h2, h3, h4, h5, h6⟩
theorem stop_w {lo n : Nat} {T id : Int} {A : Option Addr} {c : Nat} {L : IL} (hl : L.length ≤ 1000) {w : World} (hlo : lo ≤ w.heap.size) (hA : Rd w w.heap.size A (duR L)) :
    Calls Try.prog 11 #[rwV n T A L.length c, .int .i64 id] w (mPost (WAt lo n T (.bool (lookK id L).isSome) (drP id L)) w) :=
  (rw_Stop n T id A c L hl w hA).mono fun e w' ⟨B, d, he, h1, h2, h3, h4, h5, h6⟩ => ⟨_, he, ⟨_, _, _, rfl⟩, ⟨_, _, _, rfl, rfl, h1, h2, h3, h4.mono hlo, h6⟩, h5⟩
def inQ (id t T : Int) (L M : IL) : Prop := SoR M ∧ M.Perm (if setOk id t T then (id, t) :: dropK id L else L)
theorem set_w {lo n : Nat} {T id t : Int} {A : Option Addr} {c : Nat} {L : IL} (hl : L.length ≤ 900) (hs : SoR L) (hc : L.length ≤ c ∧ c ≤ 9223372036854775807) {w : World} (hlo : lo ≤ w.heap.size) (hA : Rd w w.heap.size A (duR L)) (hf : Fr lo A) (ht : TyA w 65 A) :
    Calls Try.prog 18 #[rwV n T A L.length c, .int .i64 id, .int .i64 t] w (mPost (WAt lo n T (.int .i64 (if setOk id t T then 0 else 8)) (inQ id t T L)) w) := by
  by_cases hok : setOk id t T = true
  · refine (rw_Set n T id t A c L hs hl hok w hA).mono ?_
    rintro e w' ⟨B, d, m, he, h1, h2, h3, h4, h5, h6, h7, h8⟩
    rw [if_pos hok]
    exact ⟨_, he, ⟨_, _, _, rfl⟩, ⟨_, _, _, rfl, ⟨h1, by rw [if_pos hok]; exact h2⟩, h3, h4, h5, h6.mono hlo, h8⟩, h7⟩
  · have hno : setOk id t T = false := by simpa using hok
    refine (rw_Set_no n T id t A L.length c hno w).mono ?_
    rintro e w' ⟨he, hb⟩
    rw [if_neg hok]
    exact ⟨_, he, ⟨_, _, _, rfl⟩, ⟨_, _, _, rfl, ⟨hs, by rw [if_neg hok]⟩, hc.1, hc.2, hA.step hb, hf, ht.step hb⟩, hb⟩
def gOk (T t : Int) : Bool := decide (T < t) && decide (t ≤ 1099511627776)
def gT (T t : Int) : Int := if gOk T t then t else T
def gM_ (T t : Int) (L : IL) : IL := if gOk T t then L.filter (fun p => decide (p.2 ≤ t)) else []
def gL (T t : Int) (L : IL) : IL := if gOk T t then L.filter (fun p => decide (t < p.2)) else L
theorem go_w (W : World) (g wm : Nat) (ad : Addr) (rs : List Nat) (n : Nat) (T : Int) (L : IL) (t : Int) (hs : SoR L) (h : Wh W g wm ad rs ⟨n, T, L⟩) :
    Calls Try.prog 14 #[.pointer (some ⟨g, 0, none⟩), .int .i64 t] W fun e w' => ∃ A c, e = .returned (.slice A (gM_ T t L).length c) ∧ Rd w' w'.heap.size A (duR (gM_ T t L)) ∧ Wh w' g wm ad rs ⟨n, gT T t, gL T t L⟩ ∧ FpW (fpOf g wm ad rs) W w' := by
  by_cases hok : gOk T t = true
  · have e1 : gM_ T t L = L.filter (fun p => decide (p.2 ≤ t)) := if_pos hok
    have e2 : gT T t = t := if_pos hok
    have e3 : gL T t L = L.filter (fun p => decide (t < p.2)) := if_pos hok
    rw [e1, e2, e3]
    simp only [gOk, Bool.and_eq_true, decide_eq_true_eq] at hok
    refine (wh_Go W g wm ad rs ⟨n, T, L⟩ t h hok).mono ?_
    rintro e w' ⟨A, c, l, rfl, hp, hso, r, f, v, fp⟩
    have := so_eq hp hso (so_of (so_filter hs _))
    subst this
    exact ⟨A, c, rfl, r, v, fp⟩
  · have e1 : gM_ T t L = [] := if_neg hok
    have e2 : gT T t = T := if_neg hok
    have e3 : gL T t L = L := if_neg hok
    rw [e1, e2, e3]
    refine (wh_Go_no W g wm ad rs ⟨n, T, L⟩ t h ?_).mono ?_
    · simp only [gOk, Bool.and_eq_true, decide_eq_true_eq] at hok
      simp only
      omega
    · rintro e w' ⟨rfl, hb⟩
      exact ⟨none, 0, rfl, Rd.nil, h.step hb, FpW.of hb⟩
theorem rgo_w (n : Nat) (T t : Int) (A : Option Addr) (c : Nat) (L : IL) (hs : SoR L) (hl : L.length ≤ 900) (hc : L.length ≤ c ∧ c ≤ 9223372036854775807) (w : World) (hA : Rd w w.heap.size A (duR L)) :
    Calls Try.prog 15 #[rwV n T A L.length c, .int .i64 t] w fun e w' => ∃ B d A2 c2, e = .returned (.tuple #[rwV n (gT T t) B (gL T t L).length d, .slice A2 (gM_ T t L).length c2]) ∧ (gL T t L).length ≤ d ∧ d ≤ 9223372036854775807 ∧ Rd w' w'.heap.size B (duR (gL T t L)) ∧ Rd w' w'.heap.size A2 (duR (gM_ T t L)) ∧ SameB A B ∧ (A2 = A ∨ A2 = none) ∧ Below w.heap.size w w' := by
  by_cases hok : gOk T t = true
  · have e1 : gM_ T t L = L.filter (fun p => decide (p.2 ≤ t)) := if_pos hok
    have e2 : gT T t = t := if_pos hok
    have e3 : gL T t L = L.filter (fun p => decide (t < p.2)) := if_pos hok
    rw [e1, e2, e3]
    simp only [gOk, Bool.and_eq_true, decide_eq_true_eq] at hok
    refine (rw_Go n T t A c L hs (by omega) hc.1 hok w hA).mono ?_
    rintro e w' ⟨k, B, hk, h1, h2, rfl, rB, sB, hb⟩
    rw [← h1, ← h2]
    refine ⟨B, c - k, A, c, by rw [List.length_drop, List.length_take, Nat.min_eq_left hk], by rw [List.length_drop]; omega, by omega, rB, ?_, sB, .inl rfl, hb⟩
    rw [← duR_take]
    exact (hA.step hb).take _
  · have e1 : gM_ T t L = [] := if_neg hok
    have e2 : gT T t = T := if_neg hok
    have e3 : gL T t L = L := if_neg hok
    rw [e1, e2, e3]
    refine (rw_Go_no n T t A L.length c ?_ w).mono ?_
    · simp only [gOk, Bool.and_eq_true, decide_eq_true_eq] at hok
      omega
    · rintro e w' ⟨rfl, hb⟩
      exact ⟨A, c, none, 0, rfl, hc.1, hc.2, hA.step hb, Rd.nil, SameB.refl A, .inr rfl, hb⟩
theorem gL_so {T t : Int} {L : IL} (h : SoR L) : SoR (gL T t L) := by
  unfold gL; split
  · exact so_filter h _
  · exact h
theorem gM_few (T t : Int) (L : IL) : (gM_ T t L).length ≤ L.length := by
  unfold gM_; split
  · exact List.length_filter_le _ _
  · simp
theorem all_row {W : World} {g wm n : Nat} {ad : Addr} {rs : List Nat} {T : Int} {L : IL} (hs : SoR L) (h : Wh W g wm ad rs ⟨n, T, L⟩) :
    Calls Try.prog 23 #[.pointer (some ⟨g, 0, none⟩)] W fun e w' => ∃ A c, e = .returned (.slice A L.length c) ∧ Rd w' w'.heap.size A (duR L) ∧ Below W.heap.size W w' :=
  (wh_AllS W g wm ad rs ⟨n, T, L⟩ (so_of hs) h).mono fun e w' ⟨A, c, he, hr, _, hb⟩ => ⟨A, c, he, hr, hb⟩
theorem load_row {W : World} {g wm n : Nat} {ad : Addr} {rs : List Nat} {T : Int} {L : IL} (h : Wh W g wm ad rs ⟨n, T, L⟩) :
    Calls Try.prog 27 #[.pointer (some ⟨g, 0, none⟩)] W fun e w' => ∃ A c, e = .returned (.slice A n c) ∧ Rd w' w'.heap.size A (ints (loadL n n L)) ∧ Below W.heap.size W w' :=
  (wh_Load W g wm ad rs ⟨n, T, L⟩ h).mono fun e w' ⟨A, c, he, hr, _, hb⟩ => ⟨A, c, he, hr, hb⟩
theorem rload_row {W : World} {n : Nat} (hn : 1 ≤ n ∧ n ≤ 32) {T : Int} {A : Option Addr} {c : Nat} {L : IL} (hl : L.length ≤ 256) (hv : ∀ p ∈ L, 0 ≤ p.2 ∧ p.2 ≤ 1099511627776) (h : Rd W W.heap.size A (duR L)) :
    Calls Try.prog 28 #[rwV n T A L.length c] W fun e w' => ∃ A c, e = .returned (.slice A n c) ∧ Rd w' w'.heap.size A (ints (loadL n n L)) ∧ Below W.heap.size W w' :=
  (rw_Load n hn T A c L (by omega) hv W h).mono fun e w' ⟨B, he, hr, hb⟩ => ⟨B, n, he, hr, hb⟩
set_option maxHeartbeats 8000000 in
set_option maxRecDepth 100000 in
theorem WheelPlays_walk (s : Int) (A : Option Addr) (c : Nat) (l : List AcW) (hs : -9223372036854775808 ≤ s ∧ s ≤ 9223372036854775807) (hl : l.length ≤ maxLen) (hp : ∀ p ∈ l, (0 ≤ p.kind ∧ p.kind ≤ 255) ∧ (-9223372036854775808 ≤ p.id ∧ p.id ≤ 9223372036854775807) ∧ -9223372036854775808 ≤ p.at_ ∧ p.at_ ≤ 9223372036854775807) (w : World) (hA : Rd w w.heap.size A (awR l)) :
    Calls Try.prog 3 #[.int .i64 s, .slice A l.length c] w fun e w' => e = .returned (.bool true) ∧ Below w.heap.size w w' := by
  unfold maxLen at hl
  by_cases h60 : 60 < l.length
  · have h60' : (60 : Int) < l.length := by omega
    go_enter Try.func3, Try.ntmps3
    go_wp2_with fail
    refine (awake_any _).mono ?_
    rintro e w' ⟨rfl, hb⟩
    go_wp2
    go_ret
    exact ⟨rfl, hb⟩
  · have h60' : ¬ (60 : Int) < l.length := by omega
    by_cases hok : 1 ≤ s ∧ s ≤ 32
    · obtain ⟨n, rfl⟩ : ∃ n : Nat, s = n := ⟨s.toNat, by omega⟩
      have hn : 1 ≤ n ∧ n ≤ 32 := by omega
      go_enter Try.func3, Try.ntmps3
      go_wp2_with fail
      refine (wh_New _ n hn).mono ?_
      rintro e w1 ⟨hb1, gv, wv, av, rv, rfl, v1, fv⟩
      have lv := v1.lt
      go_wp2_with fail
      refine (rw_New n hn _).mono ?_
      rintro e w2 ⟨rfl, hy2⟩
      have hz2 := hy2.size
      replace hb1 := hb1.step hy2
      replace v1 := v1.step hy2
      clear hy2
      go_wp2_with fail
      generalize hV : World.alloc w2 _ = w3
      have hy : Below w2.heap.size w2 w3 := by subst hV; (repeat (first | with_reducible exact Below.refl _ _ | with_reducible assumption | with_reducible refine Below.drew ?_ | with_reducible refine Below.drewN ?_ _ | with_reducible refine Below.alloc1 ?_ _ | with_reducible refine Below.setCell1 ?_ (by first | omega | (simp; done) | (simp; omega)) _ | with_reducible refine Below.step ?_ (by with_reducible assumption)))
      have kM : Bk w3 w2.heap.size 30 [.int .i64 n, .int .i64 0, .slice none 0 0] := by subst hV; (repeat (first | with_reducible exact Bk.new' _ _ _ _ (by simp; done) | with_reducible assumption | with_reducible refine Bk.alloc ?_ _ | with_reducible refine Bk.drew ?_ | with_reducible refine Bk.drewN ?_ _ | with_reducible refine Bk.step ?_ (by with_reducible assumption) | with_reducible refine Bk.far ?_ (by first | omega | (simp; done) | (simp; omega)) _))
      have hp0 : Pl w3 gv wv av rv w2.heap.size n 0 [] none 0 := ⟨v1.step hy, List.Pairwise.nil, ⟨by simp, by omega⟩, Rd.nil, Fr.none _, TyA.none _ _, fun i hi => by have := lv i hi; omega⟩
      replace hb1 := hb1.step hy
      have hgM : w.heap.size ≤ w2.heap.size := by have := fv gv (by simp [fpOf]); have := lv gv (by simp [fpOf]); omega
      clear hy hV lv v1 hz2
      generalize w2.heap.size = gM at *
      go_loopw [9] (fun i wr => ∃ (k : Nat) (T : Int) (L : IL) (A' : Option Addr) (c' : Nat), k ≤ l.length ∧ i = .int .i64 k ∧ Pl wr gv wv av rv gM n T L A' c' ∧ Bk wr gM 30 [.int .i64 n, .int .i64 T, .slice A' L.length c'] ∧ Below w.heap.size w wr) (fun i _ => l.length - (intOf i).toNat)
      case atStart => exact ⟨0, 0, [], none, 0, Nat.zero_le _, rfl, hp0, kM, hb1⟩
      case round =>
        obtain ⟨k, T, L, A', c', hk, rfl, pl, kR, hbr⟩ := hrel
        clear hp0 kM hb1
        by_cases hlt : k < l.length
        · have hlt' : (k : Int) < l.length := by omega
          obtain ⟨ad, rfl, hab, q0, q1, q2⟩ := (hA.below hbr).aw hlt
          obtain ⟨p0, p1, p2⟩ := hp l[k] (List.getElem_mem hlt)
          generalize l[k] = x at *
          obtain ⟨kind, id, t0⟩ := x
          simp only at q0 q1 q2 p0 p1 p2
          obtain ⟨kd, hkd⟩ : ∃ kd : Int, kind.tmod 4 = kd := ⟨_, rfl⟩
          have hid : ∀ (W' : World), Below w.heap.size wr W' → W'.cell? { block := (ad.add (k * 3)).block, off := (ad.add (k * 3)).off + 1 } = some (.int .i64 id) := fun W' h => (h.cell (by simp only [add_block]; omega)).trans q1
          have hat : ∀ (W' : World), Below w.heap.size wr W' → W'.cell? { block := (ad.add (k * 3)).block, off := (ad.add (k * 3)).off + 2 } = some (.int .i64 t0) := fun W' h => (h.cell (by simp only [add_block]; omega)).trans q2
          have few := pl.few
          have hnow := pl.v.hnow
          simp only at hnow
          have hidw := wfr p1
          have hlM := kR.lt
          have kR_0 := kR.cell 0; have kR_f0 := kR.frozen 0; have kR_1 := kR.cell 1; have kR_f1 := kR.frozen 1; have kR_2 := kR.cell 2; have kR_f2 := kR.frozen 2; simp only [List.set_cons_zero, List.set_cons_succ, List.getElem?_cons_zero, List.getElem?_cons_succ] at kR_0 kR_1 kR_2; have lt_kR := kR.lt
          go_upto_block 2 with fail
          go_cut [10, 11, 12, 13, 14, 15, 16, 17, 18, 19, 20] from 69 to 147 (fun v10 v11 v12 v13 v14 v15 v16 v17 v18 v19 v20 wx => ∃ (T : Int) (L : IL) (A' : Option Addr) (c' : Nat), Pl wx gv wv av rv gM n T L A' c' ∧ Bk wx gM 30 [.int .i64 n, .int .i64 T, .slice A' L.length c'] ∧ Below w.heap.size wr wx)
          case first =>
            have hRS := fun W (h : Below wr.heap.size wr W) => rw_Stop n T id A' c' L (by omega) W (pl.rd.step h)
            by_cases h2 : kd = 2
            · subst h2
              -- [a
              have hb1' := hid wr (Below.refl _ _)
              go_wp2_with fail
              refine (wh_Stop _ gv wv av rv ⟨n, T, L⟩ id hidw pl.v).mono ?_
              rintro e w1 ⟨rfl, v1, f1⟩
              have hgf : gM ∉ fpOf gv wv av rv := fun hm => by have := pl.hf _ hm; omega
              have kR1 := kR.fp f1 hgf
              have r1 := f1.rd pl.rd (fun a e hm => by have := pl.hf _ hm; have := pl.fr a e; omega)
              have g1 : Below w.heap.size wr w1 := f1.toBelow hbr.size fv
              have hb2' := hid w1 g1
              have l1 := kR1.lt
              (try clear kR_0 kR_f0 kR_1 kR_f1 kR_2 kR_f2 lt_kR)
              have kR1_0 := kR1.cell 0; have kR1_f0 := kR1.frozen 0; have kR1_1 := kR1.cell 1; have kR1_f1 := kR1.frozen 1; have kR1_2 := kR1.cell 2; have kR1_f2 := kR1.frozen 2; simp only [List.set_cons_zero, List.set_cons_succ, List.getElem?_cons_zero, List.getElem?_cons_succ] at kR1_0 kR1_1 kR1_2; have lt_kR1 := kR1.lt
              replace hRS := fun W (h : Below w1.heap.size w1 W) => rw_Stop n T id A' c' L (by omega) W (r1.step h)
              go_upto_region 19 with fail
              have hbk : (ad.add (k * 3)).block < w1.heap.size := by rw [add_block]; have := hbr.size; have := g1.size; omega
              refine wp_region_ml 11 9 [(6, WAt (gM + 1) n T (.bool (lookK id L).isSome) (drP id L)), (10, NewBk w1.heap.size 30 [.int .i64 0, .int .i64 0, .slice none 0 0])] (by kernel_rfl) (by kernel_rfl) (by kernel_rfl) (by kernel_rfl) (by kernel_rfl) (sts_cons (sts_w _ _ _ _ _) (sts_cons (sts_newBk _ _ _) sts_nil)) (fun _ d _ _ _ h => by cases d <;> exact h) (fun kq => ?_); (try dsimp only [List.append, lateL, lateOp, List.getElem?_cons_succ, List.getElem?_cons_zero, List.set_cons_succ, List.set_cons_zero, List.take])
              (repeat (refine wpM_via (by kernel_rfl) ?_; go_big_quiet_step (fail); refine wpQuiet_nil ?_))
              (refine wpM_spec _ (WAt (gM + 1) n T (.bool (lookK id L).isSome) (drP id L)) (by kernel_rfl) (by kernel_rfl) rfl (later_some _) ?_ ?_; (focus (intro x hx hk; obtain ⟨px, rfl⟩ := hx; go_simp; (first | with_reducible refine mUpon_enter ?_ | with_reducible refine mUpon_value ?_); go_at_call 11; exact stop_w (by omega) (Nat.le_trans l1 (below_regrown _ _ _).size) (r1.step (below_regrown _ _ _)))); intro v hv K hK; obtain ⟨M5, B5, d5, rfl⟩ := hv; go_big_quiet_op; refine hK _ ?_; clear hK K)
              (repeat (refine wpM_via (by kernel_rfl) ?_; go_big_quiet_step (fail); refine wpQuiet_nil ?_))
              (refine wpM_spec _ (NewBk w1.heap.size 30 [.int .i64 0, .int .i64 0, .slice none 0 0]) (by kernel_rfl) (by kernel_rfl) rfl (later_some _) ?_ ?_; (focus (intro x hx hk; obtain ⟨px, rfl⟩ := hx; go_simp; (first | with_reducible refine mUpon_enter ?_ | with_reducible refine mUpon_value ?_); exact newBk_new (by simp [Go.Sort.grow]) rfl (by simp [Go.Sort.grow, redrawn]))); intro v hv K hK; obtain ⟨gX, rfl, hgX⟩ := hv; go_big_quiet_op; refine hK _ ?_; clear hK K)
              refine wpM_nil ?_; intro wq hwq hfq; have hbq := below_of_class hwq; clear hwq kq; (try dsimp only [List.drop])
              have kX : Bk wq gX 30 [.int .i64 0, .int .i64 0, .slice none 0 0] := newBk_of (base := w1.heap.size) hfq.1
              obtain ⟨M, hML, hM, hd1, hd2, rM, fM, tM⟩ := w_of hfq.2.1
              obtain rfl : M = dropK id L := hM
              generalize M5.length = m5 at *
              subst hML
              have v2 := v1.step hbq
              have kR2 := kR1.step hbq
              have g2 := g1.trans (hbq.mono (show w.heap.size ≤ w1.heap.size from Nat.le_trans hbr.size g1.size))
              clear hfq
              generalize (lookK id L).isSome = bb at *
              (try clear kR1_0 kR1_f0 kR1_1 kR1_f1 kR1_2 kR1_f2 lt_kR1)
              have hne : gX ≠ gM := by omega
              have hse := hbq.size
              have kR2_0 := kR2.cell 0; have kR2_f0 := kR2.frozen 0; have kR2_1 := kR2.cell 1; have kR2_f1 := kR2.frozen 1; have kR2_2 := kR2.cell 2; have kR2_f2 := kR2.frozen 2; simp only [List.set_cons_zero, List.set_cons_succ, List.getElem?_cons_zero, List.getElem?_cons_succ] at kR2_0 kR2_1 kR2_2; have lt_kR2 := kR2.lt; have kX_0 := kX.cell 0; have kX_f0 := kX.frozen 0; have kX_1 := kX.cell 1; have kX_f1 := kX.frozen 1; have kX_2 := kX.cell 2; have kX_f2 := kX.frozen 2; simp only [List.set_cons_zero, List.set_cons_succ, List.getElem?_cons_zero, List.getElem?_cons_succ] at kX_0 kX_1 kX_2; have lt_kX := kX.lt
              have P1 : Pl wq gv wv av rv gM n T (dropK id L) B5 d5 := ⟨v2, so_filter pl.so _, ⟨hd1, hd2⟩, rM, fM, tM, pl.hf⟩
              have hgg : gM ≤ gX := by omega
              go_wp2
              go_meet
              exact ⟨T, dropK id L, B5, d5, (((((P1.new kX hgg _ _).new (kX.set_ _ _) hgg _ _).new ((kX.set_ _ _).set_ _ _) hgg _ _).at_ _ _).at_ _ _).at_ _ _, (((((kR2.far hne.symm _).far hne.symm _).far hne.symm _).set_ 0 _).set_ 1 _).set_ 2 _, by (repeat (first | with_reducible exact Below.refl _ _ | with_reducible assumption | with_reducible refine Below.drew ?_ | with_reducible refine Below.drewN ?_ _ | with_reducible refine Below.alloc ?_ (by first | omega | (simp; done) | (simp; omega)) _ | with_reducible refine Below.setCell ?_ (by first | omega | (simp; done) | (simp; omega)) _ | with_reducible refine Below.then_ ?_ (by with_reducible assumption) (by first | omega | (simp; done) | (simp; omega))))⟩
              -- a]
            · by_cases h3 : kd = 3
              · subst h3
                -- [b
                clear hRS
                have hbk : (ad.add (k * 3)).block < wr.heap.size := by rw [add_block]; have := hbr.size; omega
                have hb0 := hat wr (Below.refl _ _)
                obtain ⟨tt, htt⟩ : ∃ tt, T + max (-2199023255552) (min 2199023255552 t0) = tt := ⟨_, rfl⟩
                have hH := fun W => held_any T t0 hnow p2 W
                simp only [htt] at hH
                have ht1 : -9223372036854775808 ≤ tt ∧ tt ≤ 9223372036854775807 := by omega
                clear htt
                go_upto_region 24 with fail
                refine wp_region_m [(7, only (.int .i64 tt))] (by kernel_rfl) (by kernel_rfl) (by kernel_rfl) (by kernel_rfl) (sts_cons (sts_only _) sts_nil) (fun kq => ?_); (try dsimp only [List.append])
                (repeat (refine wpM_via (by kernel_rfl) ?_; go_big_quiet_step (fail); refine wpQuiet_nil ?_))
                (refine wpM_only _ (.int .i64 tt) (by kernel_rfl) (by kernel_rfl) rfl (later_some _) ?_ ?_; (focus (intro x hx hk; obtain ⟨px, rfl⟩ := hx; go_simp; (first | with_reducible refine mUpon_enter ?_ | with_reducible refine mUpon_value ?_); go_at_call 12; exact (hH _).mos)); intro K hK; go_big_quiet_op; refine hK _ ?_; clear hK K)
                (repeat (refine wpM_via (by kernel_rfl) ?_; go_big_quiet_step (fail); refine wpQuiet_nil ?_))
                refine wpM_nil ?_; intro wq hwq hfq; have hbq := below_of_class hwq; clear hwq kq; (try dsimp only [List.drop])
                have pl1 := pl.step hbq
                have kR1 := kR.step hbq
                have g1 : Below w.heap.size wr wq := hbq.mono hbr.size
                have hgf : gM ∉ fpOf gv wv av rv := fun hm => by have := pl.hf _ hm; omega
                (try clear kR_0 kR_f0 kR_1 kR_f1 kR_2 kR_f2 lt_kR)
                clear hfq hH hb0
                have few1 := gM_few T tt L
                go_wp2_with fail
                refine (go_w _ gv wv av rv n T L tt pl.so pl1.v).mono ?_
                rintro e w5 ⟨A5, c5, rfl, r5, v5, f5⟩
                have kR5 := kR1.fp f5 hgf
                obtain ⟨rA5, tA5⟩ := pl1.wheel (T' := T) (L' := L) f5
                have g5 : Below w.heap.size wr w5 := g1.trans (f5.toBelow (Nat.le_trans hbr.size g1.size) fv)
                clear pl1 kR1 hbq
                go_wp2_with fail
                refine (due_any _ A5 c5 _ (by omega) r5).mono ?_
                rintro e w6 ⟨B6, d6, rfl, own6, hb6⟩
                have kR6 := kR5.step hb6
                have v6 := v5.step hb6
                have rA6 := rA5.step hb6
                have tA6 := tA5.step hb6
                have g6 := g5.then_ hb6 (by have := g5.size; have := hbr.size; omega)
                have fB6 := own_fr own6
                have l5 := kR5.lt
                replace own6 := own_rd own6
                clear kR5 v5 rA5 tA5 r5
                have kR6_0 := kR6.cell 0; have kR6_f0 := kR6.frozen 0; have kR6_1 := kR6.cell 1; have kR6_f1 := kR6.frozen 1; have kR6_2 := kR6.cell 2; have kR6_f2 := kR6.frozen 2; simp only [List.set_cons_zero, List.set_cons_succ, List.getElem?_cons_zero, List.getElem?_cons_succ] at kR6_0 kR6_1 kR6_2; have lt_kR6 := kR6.lt
                go_wp2_with fail
                refine (rgo_w n T tt A' c' L pl.so (by omega) pl.cap _ rA6).mono ?_
                rintro e w7 ⟨B7, d7, A7, c7, rfl, hc1, hc2, r7, r8, sB, hA7, hb7⟩
                have kR7 := kR6.step hb7
                have P7 : Pl w7 gv wv av rv gM n (gT T tt) (gL T tt L) B7 d7 := ⟨v6.step hb7, gL_so pl.so, ⟨hc1, hc2⟩, r7, sB.fr pl.fr, sB.ty (tA6.step hb7), pl.hf⟩
                have g7 := g6.then_ hb7 (by have := g6.size; have := hbr.size; omega)
                replace own6 := own6.step hb7
                have hf6 : ∀ a, B6 = some a → gM < a.block := fun a e => by have := fB6 a e; omega
                have hf7 : ∀ a, A7 = some a → gM < a.block := fun a e => by
                  rcases hA7 with rfl | rfl
                  · have := pl.fr a e; omega
                  · cases e
                (try clear kR6_0 kR6_f0 kR6_1 kR6_f1 kR6_2 kR6_f2 lt_kR6)
                clear rA6 tA6 kR6 v6 pl r7
                generalize gM_ T tt L = mm at *
                generalize gL T tt L = LL at *
                generalize gT T tt = TT at *
                have kR7_0 := kR7.cell 0; have kR7_f0 := kR7.frozen 0; have kR7_1 := kR7.cell 1; have kR7_f1 := kR7.frozen 1; have kR7_2 := kR7.cell 2; have kR7_f2 := kR7.frozen 2; simp only [List.set_cons_zero, List.set_cons_succ, List.getElem?_cons_zero, List.getElem?_cons_succ] at kR7_0 kR7_1 kR7_2; have lt_kR7 := kR7.lt
                go_wp2_with fail
                generalize hV : World.setCell _ _ _ = w8
                have own8 : Rd w8 w8.heap.size B6 (duR mm) := by subst hV; exact ((own6.farA hf6 _).farA hf6 _).farA hf6 _
                have r9 : Rd w8 w8.heap.size A7 (duR mm) := by subst hV; exact ((r8.farA hf7 _).farA hf7 _).farA hf7 _
                have P8 : Pl w8 gv wv av rv gM n TT LL B7 d7 := by subst hV; exact ((P7.at_ _ _).at_ _ _).at_ _ _
                have kR8 : Bk w8 gM 30 [.int .i64 n, .int .i64 TT, .slice B7 LL.length d7] := by subst hV; exact ((kR7.set_ 0 _).set_ 1 _).set_ 2 _
                have g8 : Below w.heap.size wr w8 := by subst hV; (repeat (first | with_reducible exact Below.refl _ _ | with_reducible assumption | with_reducible refine Below.drew ?_ | with_reducible refine Below.drewN ?_ _ | with_reducible refine Below.alloc ?_ (by first | omega | (simp; done) | (simp; omega)) _ | with_reducible refine Below.setCell ?_ (by first | omega | (simp; done) | (simp; omega)) _ | with_reducible refine Below.then_ ?_ (by with_reducible assumption) (by first | omega | (simp; done) | (simp; omega))))
                clear hV own6 r8 P7
                have hy9 : Below w8.heap.size w8 (w8.alloc (.cells #[.int .i64 (n : Int), .int .i64 TT, .slice B7 LL.length d7] 30)) := by (repeat (first | with_reducible exact Below.refl _ _ | with_reducible assumption | with_reducible refine Below.drew ?_ | with_reducible refine Below.drewN ?_ _ | with_reducible refine Below.alloc1 ?_ _ | with_reducible refine Below.setCell1 ?_ (by first | omega | (simp; done) | (simp; omega)) _ | with_reducible refine Below.step ?_ (by with_reducible assumption)))
                refine (SD_self B6 A7 d6 c7 mm _ (by omega) (own8.step hy9) (r9.step hy9)).mono ?_
                rintro e w9 ⟨rfl, hq9⟩
                have hy10 := hy9.step (qt_below hq9)
                go_wp2
                go_meet
                exact ⟨TT, LL, B7, d7, P8.step hy10, kR8.step hy10, g8.then_ hy10 (by have := g8.size; have := hbr.size; omega)⟩
                -- b]
              · skip
                -- [c
                clear hRS
                have hbk : (ad.add (k * 3)).block < wr.heap.size := by rw [add_block]; have := hbr.size; omega
                have hb0 := hat wr (Below.refl _ _)
                obtain ⟨tt, htt⟩ : ∃ tt, T + max (-2199023255552) (min 2199023255552 t0) = tt := ⟨_, rfl⟩
                have hH := fun W => held_any T t0 hnow p2 W
                simp only [htt] at hH
                have ht1 : -9223372036854775808 ≤ tt ∧ tt ≤ 9223372036854775807 := by omega
                clear htt
                go_upto_region 11 with fail
                refine wp_region_m [(7, only (.int .i64 tt))] (by kernel_rfl) (by kernel_rfl) (by kernel_rfl) (by kernel_rfl) (sts_cons (sts_only _) sts_nil) (fun kq => ?_); (try dsimp only [List.append])
                (repeat (refine wpM_via (by kernel_rfl) ?_; go_big_quiet_step (fail); refine wpQuiet_nil ?_))
                (refine wpM_only _ (.int .i64 tt) (by kernel_rfl) (by kernel_rfl) rfl (later_some _) ?_ ?_; (focus (intro x hx hk; obtain ⟨px, rfl⟩ := hx; go_simp; (first | with_reducible refine mUpon_enter ?_ | with_reducible refine mUpon_value ?_); go_at_call 12; exact (hH _).mos)); intro K hK; go_big_quiet_op; refine hK _ ?_; clear hK K)
                (repeat (refine wpM_via (by kernel_rfl) ?_; go_big_quiet_step (fail); refine wpQuiet_nil ?_))
                refine wpM_nil ?_; intro wq hwq hfq; have hbq := below_of_class hwq; clear hwq kq; (try dsimp only [List.drop])
                have pl1 := pl.step hbq
                have kR1 := kR.step hbq
                have g1 : Below w.heap.size wr wq := hbq.mono hbr.size
                have hgf : gM ∉ fpOf gv wv av rv := fun hm => by have := pl.hf _ hm; omega
                (try clear kR_0 kR_f0 kR_1 kR_f1 kR_2 kR_f2 lt_kR)
                clear hfq hH hb0
                have hbI := hid wq g1
                go_wp2_with fail
                refine (wh_Set _ gv wv av rv ⟨n, T, L⟩ id tt hidw (wfr ht1) pl1.v).mono ?_
                rintro e w5 ⟨rfl, v5, f5⟩
                simp only at v5
                have kR5 := kR1.fp f5 hgf
                obtain ⟨rA5, tA5⟩ := pl1.wheel (T' := T) (L' := L) f5
                have g5 : Below w.heap.size wr w5 := g1.trans (f5.toBelow (Nat.le_trans hbr.size g1.size) fv)
                have hb5 := hid w5 g5
                have hSW := fun {W : World} (h1 : gM + 1 ≤ W.heap.size) (h2 : Rd W W.heap.size A' (duR L)) (h3 : TyA W 65 A') => set_w (lo := gM + 1) (n := n) (T := T) (id := id) (t := tt) (A := A') (c := c') (by omega) pl.so pl.cap h1 h2 pl.fr h3
                have HQ := hide (show (if setOk id tt T then (id, tt) :: dropK id L else L) = (if setOk id tt T then (id, tt) :: dropK id L else L) from rfl)
                generalize (if setOk id tt T then (0 : Int) else 8) = cc at *
                have l5 := kR5.lt
                have hbk5 : (ad.add (k * 3)).block < w5.heap.size := by have := f5.size; have := hbq.size; omega
                clear pl1 kR1 hbq
                have kR5_0 := kR5.cell 0; have kR5_f0 := kR5.frozen 0; have kR5_1 := kR5.cell 1; have kR5_f1 := kR5.frozen 1; have kR5_2 := kR5.cell 2; have kR5_f2 := kR5.frozen 2; simp only [List.set_cons_zero, List.set_cons_succ, List.getElem?_cons_zero, List.getElem?_cons_succ] at kR5_0 kR5_1 kR5_2; have lt_kR5 := kR5.lt
                go_upto_region 13 with fail
                refine wp_region_ml 12 10 [(7, WAt (gM + 1) n T (.int .i64 cc) (inQ id tt T L)), (11, NewBk w5.heap.size 30 [.int .i64 0, .int .i64 0, .slice none 0 0])] (by kernel_rfl) (by kernel_rfl) (by kernel_rfl) (by kernel_rfl) (by kernel_rfl) (sts_cons (sts_w _ _ _ _ _) (sts_cons (sts_newBk _ _ _) sts_nil)) (fun _ d _ _ _ h => by cases d <;> exact h) (fun kq => ?_); (try dsimp only [List.append, lateL, lateOp, List.getElem?_cons_succ, List.getElem?_cons_zero, List.set_cons_succ, List.set_cons_zero, List.take])
                (repeat (refine wpM_via (by kernel_rfl) ?_; go_big_quiet_step (fail); refine wpQuiet_nil ?_))
                (refine wpM_spec _ (WAt (gM + 1) n T (.int .i64 cc) (inQ id tt T L)) (by kernel_rfl) (by kernel_rfl) rfl (later_some _) ?_ ?_; (focus (intro x hx hk; obtain ⟨px, rfl⟩ := hx; go_simp; (first | with_reducible refine mUpon_enter ?_ | with_reducible refine mUpon_value ?_); go_at_call 18; exact hSW (Nat.le_trans l5 (below_regrown _ _ _).size) (rA5.step (below_regrown _ _ _)) (tA5.step (below_regrown _ _ _)))); intro v hv K hK; obtain ⟨M5, B5, d5, rfl⟩ := hv; go_big_quiet_op; refine hK _ ?_; clear hK K)
                (repeat (refine wpM_via (by kernel_rfl) ?_; go_big_quiet_step (fail); refine wpQuiet_nil ?_))
                (refine wpM_spec _ (NewBk w5.heap.size 30 [.int .i64 0, .int .i64 0, .slice none 0 0]) (by kernel_rfl) (by kernel_rfl) rfl (later_some _) ?_ ?_; (focus (intro x hx hk; obtain ⟨px, rfl⟩ := hx; go_simp; (first | with_reducible refine mUpon_enter ?_ | with_reducible refine mUpon_value ?_); exact newBk_new (by simp [Go.Sort.grow]) rfl (by simp [Go.Sort.grow, redrawn]))); intro v hv K hK; obtain ⟨gX, rfl, hgX⟩ := hv; go_big_quiet_op; refine hK _ ?_; clear hK K)
                refine wpM_nil ?_; intro wq hwq hfq; have hbq := below_of_class hwq; clear hwq kq; (try dsimp only [List.drop])
                have kX : Bk wq gX 30 [.int .i64 0, .int .i64 0, .slice none 0 0] := newBk_of (base := w5.heap.size) hfq.1
                obtain ⟨M, hML, hM, hd1, hd2, rM, fM, tM⟩ := w_of hfq.2.1
                generalize M5.length = m5 at *
                subst hML
                have v6 := (v5.step hbq).perm hM.2.symm
                simp only at v6
                have kR6 := kR5.step hbq
                have g6 := g5.then_ hbq (by have := g5.size; have := hbr.size; omega)
                have hso := hM.1
                clear hfq v5 hSW rA5 tA5 hM
                (try clear kR5_0 kR5_f0 kR5_1 kR5_f1 kR5_2 kR5_f2 lt_kR5)
                have hne : gX ≠ gM := by omega
                have hse := hbq.size
                have P1 : Pl wq gv wv av rv gM n T M B5 d5 := ⟨v6, hso, ⟨hd1, hd2⟩, rM, fM, tM, pl.hf⟩
                have hgg : gM ≤ gX := by omega
                have kR6_0 := kR6.cell 0; have kR6_f0 := kR6.frozen 0; have kR6_1 := kR6.cell 1; have kR6_f1 := kR6.frozen 1; have kR6_2 := kR6.cell 2; have kR6_f2 := kR6.frozen 2; simp only [List.set_cons_zero, List.set_cons_succ, List.getElem?_cons_zero, List.getElem?_cons_succ] at kR6_0 kR6_1 kR6_2; have lt_kR6 := kR6.lt; have kX_0 := kX.cell 0; have kX_f0 := kX.frozen 0; have kX_1 := kX.cell 1; have kX_f1 := kX.frozen 1; have kX_2 := kX.cell 2; have kX_f2 := kX.frozen 2; simp only [List.set_cons_zero, List.set_cons_succ, List.getElem?_cons_zero, List.getElem?_cons_succ] at kX_0 kX_1 kX_2; have lt_kX := kX.lt
                go_wp2
                go_meet
                exact ⟨T, M, B5, d5, (((((P1.new kX hgg _ _).new (kX.set_ _ _) hgg _ _).new ((kX.set_ _ _).set_ _ _) hgg _ _).at_ _ _).at_ _ _).at_ _ _, (((((kR6.far hne.symm _).far hne.symm _).far hne.symm _).set_ 0 _).set_ 1 _).set_ 2 _, by (repeat (first | with_reducible exact Below.refl _ _ | with_reducible assumption | with_reducible refine Below.drew ?_ | with_reducible refine Below.drewN ?_ _ | with_reducible refine Below.alloc ?_ (by first | omega | (simp; done) | (simp; omega)) _ | with_reducible refine Below.setCell ?_ (by first | omega | (simp; done) | (simp; omega)) _ | with_reducible refine Below.then_ ?_ (by with_reducible assumption) (by first | omega | (simp; done) | (simp; omega))))⟩
                -- c]
          case rest =>
            -- [d
            obtain ⟨T1, L1, A1, c1, q1', k1, g1⟩ := hcut
            have few1 := q1'.few
            have nd1 := q1'.v.nodup
            have ok1 := q1'.v.ok
            have hnow1 := q1'.v.hnow
            simp only at hnow1
            have hN1 := fun W (h : Wh W gv wv av rv ⟨n, T1, L1⟩) => wh_Next W gv wv av rv ⟨n, T1, L1⟩ (so_of q1'.so) h
            have hN2 := fun W (h : Rd W W.heap.size A1 (duR L1)) => rw_Next n T1 A1 c1 L1 W h
            have hW1 := fun W (h : Wh W gv wv av rv ⟨n, T1, L1⟩) => wh_When W gv wv av rv ⟨n, T1, L1⟩ id hidw h
            have hW2 := fun W (h : Rd W W.heap.size A1 (duR L1)) => rw_When n T1 id A1 c1 L1 (by omega) W h
            have hAl := fun W (h : Wh W gv wv av rv ⟨n, T1, L1⟩) => all_row q1'.so h
            have hDu := fun W A c (h : Rd W W.heap.size A (duR L1)) => due_row W A c L1 (by omega) h
            have hSd := fun W A B c d (h1 : Rd W W.heap.size A (duR L1)) (h2 : Rd W W.heap.size B (duR L1)) => SD_self A B c d L1 W (by omega) h1 h2
            have hLe := fun W (h : Wh W gv wv av rv ⟨n, T1, L1⟩) => wh_Len W gv wv av rv ⟨n, T1, L1⟩ h
            have hNo := fun W (h : Wh W gv wv av rv ⟨n, T1, L1⟩) => wh_Now W gv wv av rv ⟨n, T1, L1⟩ h
            have hLo := fun W (h : Wh W gv wv av rv ⟨n, T1, L1⟩) => load_row h
            have hRl := fun W (h : Rd W W.heap.size A1 (duR L1)) => rload_row (n := n) hn (T := T1) (c := c1) few1 (fun p hp => by have hh := ok1 p hp; simp only at hh; exact ⟨by have := hnow1; omega, hh.2.2.2⟩) h
            have hUl := ld_length n L1
            simp only at hN1 hW1 hLe hNo
            generalize (L1.headD (0, 0)).2 = nx at hN1 hN2
            generalize (!L1.isEmpty) = ne at hN1 hN2
            generalize (lookK id L1).getD 0 = wx at hW1 hW2
            generalize (lookK id L1).isSome = we at hW1 hW2
            generalize loadL n n L1 = U at *
            have hSi := fun W A B c d (h1 : Rd W W.heap.size A (ints U)) (h2 : Rd W W.heap.size B (ints U)) => SI_n A B c d n U hUl (by unfold maxLen; omega) W h1 h2
            clear hUl nd1 ok1
            have hg0 : w.heap.size ≤ wr.heap.size := hbr.size
            go_wp2_with fail
            refine (hN1 _ q1'.v).mono ?_
            rintro e w2 ⟨rfl, hb2⟩
            have q2' := q1'.step hb2
            have k2 := k1.step hb2
            have g2 := g1.then_ hb2 (by have := g1.size; omega)
            have k2_0 := k2.cell 0; have k2_f0 := k2.frozen 0; have k2_1 := k2.cell 1; have k2_f1 := k2.frozen 1; have k2_2 := k2.cell 2; have k2_f2 := k2.frozen 2; simp only [List.set_cons_zero, List.set_cons_succ, List.getElem?_cons_zero, List.getElem?_cons_succ] at k2_0 k2_1 k2_2; have lt_k2 := k2.lt
            go_wp2_with fail
            refine (hN2 _ q2'.rd).mono ?_
            rintro e w3 ⟨rfl, hb3⟩
            have q3' := q2'.step hb3
            have k3 := k2.step hb3
            have g3 := g2.then_ hb3 (by have := g2.size; omega)
            (try clear k2_0 k2_f0 k2_1 k2_f1 k2_2 k2_f2 lt_k2)
            have i3 := hid w3 g3
            go_wp2_with fail
            refine (hW1 _ q3'.v).mono ?_
            rintro e w4 ⟨rfl, hb4⟩
            have q4' := q3'.step hb4
            have k4 := k3.step hb4
            have g4 := g3.then_ hb4 (by have := g3.size; omega)
            have i4 := hid w4 g4
            have hbk4 : (ad.add (k * 3)).block < w4.heap.size := by rw [add_block]; have := g4.size; omega
            clear hN1 hN2 hW1 i3 q1' q2' q3' k1 k2 k3 g1 g2 g3
            have k4_0 := k4.cell 0; have k4_f0 := k4.frozen 0; have k4_1 := k4.cell 1; have k4_f1 := k4.frozen 1; have k4_2 := k4.cell 2; have k4_f2 := k4.frozen 2; simp only [List.set_cons_zero, List.set_cons_succ, List.getElem?_cons_zero, List.getElem?_cons_succ] at k4_0 k4_1 k4_2; have lt_k4 := k4.lt
            go_upto_region 33 with fail
            refine wp_region_m [(6, only (.tuple #[.int .i64 wx, .bool we]))] (by kernel_rfl) (by kernel_rfl) (by kernel_rfl) (by kernel_rfl) (sts_cons (sts_only _) sts_nil) (fun kq => ?_); (try dsimp only [List.append])
            (repeat (refine wpM_via (by kernel_rfl) ?_; go_big_quiet_step (fail); refine wpQuiet_nil ?_))
            (refine wpM_only _ (.tuple #[.int .i64 wx, .bool we]) (by kernel_rfl) (by kernel_rfl) rfl (later_some _) ?_ ?_; (focus (intro x hx hk; obtain ⟨px, rfl⟩ := hx; go_simp; (first | with_reducible refine mUpon_enter ?_ | with_reducible refine mUpon_value ?_); go_at_call 22; exact (hW2 _ (q4'.rd.step (below_regrown _ _ _))).mo)); intro K hK; go_big_quiet_op; refine hK _ ?_; clear hK K)
            (repeat (refine wpM_via (by kernel_rfl) ?_; go_big_quiet_step (fail); refine wpQuiet_nil ?_))
            refine wpM_nil ?_; intro wq hwq hfq; have hbq := below_of_class hwq; clear hwq kq; (try dsimp only [List.drop])
            have q5' := q4'.step hbq
            have k5 := k4.step hbq
            have g5 := g4.then_ hbq (by have := g4.size; omega)
            (try clear k4_0 k4_f0 k4_1 k4_f1 k4_2 k4_f2 lt_k4)
            clear hfq hbq q4' k4 g4 i4 hbk4 hW2
            have k5_0 := k5.cell 0; have k5_f0 := k5.frozen 0; have k5_1 := k5.cell 1; have k5_f1 := k5.frozen 1; have k5_2 := k5.cell 2; have k5_f2 := k5.frozen 2; simp only [List.set_cons_zero, List.set_cons_succ, List.getElem?_cons_zero, List.getElem?_cons_succ] at k5_0 k5_1 k5_2; have lt_k5 := k5.lt
            go_upto_region 34 with fail
            generalize wq = w6 at *
            refine wp_region_m [(20, RowAt L1.length (duR L1)), (21, RowAt L1.length (duR L1)), (24, only (.bool true)), (29, only (.int .i64 L1.length)), (37, only (.int .i64 T1)), (44, RowAt n (ints U)), (46, RowAt n (ints U)), (47, only (.bool true))] (by kernel_rfl) (by kernel_rfl) (by kernel_rfl) (by kernel_rfl) (sts_cons (sts_row _ _) (sts_cons (sts_row _ _) (sts_cons (sts_only _) (sts_cons (sts_only _) (sts_cons (sts_only _) (sts_cons (sts_row _ _) (sts_cons (sts_row _ _) (sts_cons (sts_only _) sts_nil)))))))) (fun kq => ?_); (try dsimp only [List.append])
            (repeat (refine wpM_via (by kernel_rfl) ?_; go_big_quiet_step (fail); refine wpQuiet_nil ?_))
            (refine wpM_spec _ (RowAt L1.length (duR L1)) (by kernel_rfl) (by kernel_rfl) rfl (later_some _) ?_ ?_; (focus (intro x hx hk; obtain ⟨px, rfl⟩ := hx; go_simp; (first | with_reducible refine mUpon_enter ?_ | with_reducible refine mUpon_value ?_); go_at_call 23; exact (hAl _ (q5'.v.step (below_regrown _ _ _))).mrow)); intro v hv K hK; obtain ⟨X1, x1, rfl⟩ := hv; go_big_quiet_op; refine hK _ ?_; clear hK K)
            (repeat (refine wpM_via (by kernel_rfl) ?_; go_big_quiet_step (fail); refine wpQuiet_nil ?_))
            (refine wpM_spec _ (RowAt L1.length (duR L1)) (by kernel_rfl) (by kernel_rfl) rfl (later_some _) ?_ ?_; (focus (intro x hx hk; obtain ⟨px, rfl⟩ := hx; go_simp; (first | with_reducible refine mUpon_enter ?_ | with_reducible refine mUpon_value ?_); go_at_call 13; exact (hDu _ X1 x1 (row_of (hk.1 (by kernel_rfl)))).mrow)); intro v hv K hK; obtain ⟨X2, x2, rfl⟩ := hv; go_big_quiet_op; refine hK _ ?_; clear hK K)
            (repeat (refine wpM_via (by kernel_rfl) ?_; go_big_quiet_step (fail); refine wpQuiet_nil ?_))
            (refine wpM_only _ (.bool true) (by kernel_rfl) (by kernel_rfl) rfl (later_some _) ?_ ?_; (focus (intro x hx hk; obtain ⟨px, rfl⟩ := hx; go_simp; (first | with_reducible refine mUpon_enter ?_ | with_reducible refine mUpon_value ?_); go_at_call 16; exact (hSd _ _ _ _ _ (row_of (hk.1 (by kernel_rfl))) (q5'.rd.step (below_regrown _ _ _))).mod)); intro K hK; go_big_quiet_op; refine hK _ ?_; clear hK K)
            (repeat (refine wpM_via (by kernel_rfl) ?_; go_big_quiet_step (fail); refine wpQuiet_nil ?_))
            (refine wpM_only _ (.int .i64 L1.length) (by kernel_rfl) (by kernel_rfl) rfl (later_some _) ?_ ?_; (focus (intro x hx hk; obtain ⟨px, rfl⟩ := hx; go_simp; (first | with_reducible refine mUpon_enter ?_ | with_reducible refine mUpon_value ?_); go_at_call 24; exact (hLe _ (q5'.v.step (below_regrown _ _ _))).mo)); intro K hK; go_big_quiet_op; refine hK _ ?_; clear hK K)
            (repeat (refine wpM_via (by kernel_rfl) ?_; go_big_quiet_step (fail); refine wpQuiet_nil ?_))
            (refine wpM_only _ (.int .i64 T1) (by kernel_rfl) (by kernel_rfl) rfl (later_some _) ?_ ?_; (focus (intro x hx hk; obtain ⟨px, rfl⟩ := hx; go_simp; (first | with_reducible refine mUpon_enter ?_ | with_reducible refine mUpon_value ?_); go_at_call 25; exact (hNo _ (q5'.v.step (below_regrown _ _ _))).mo)); intro K hK; go_big_quiet_op; refine hK _ ?_; clear hK K)
            (repeat (refine wpM_via (by kernel_rfl) ?_; go_big_quiet_step (fail); refine wpQuiet_nil ?_))
            (refine wpM_spec _ (RowAt n (ints U)) (by kernel_rfl) (by kernel_rfl) rfl (later_some _) ?_ ?_; (focus (intro x hx hk; obtain ⟨px, rfl⟩ := hx; go_simp; (first | with_reducible refine mUpon_enter ?_ | with_reducible refine mUpon_value ?_); go_at_call 27; exact (hLo _ (q5'.v.step (below_regrown _ _ _))).mrow)); intro v hv K hK; obtain ⟨X3, x3, rfl⟩ := hv; go_big_quiet_op; refine hK _ ?_; clear hK K)
            (repeat (refine wpM_via (by kernel_rfl) ?_; go_big_quiet_step (fail); refine wpQuiet_nil ?_))
            (refine wpM_spec _ (RowAt n (ints U)) (by kernel_rfl) (by kernel_rfl) rfl (later_some _) ?_ ?_; (focus (intro x hx hk; obtain ⟨px, rfl⟩ := hx; go_simp; (first | with_reducible refine mUpon_enter ?_ | with_reducible refine mUpon_value ?_); go_at_call 28; exact (hRl _ (q5'.rd.step (below_regrown _ _ _))).mrow)); intro v hv K hK; obtain ⟨X4, x4, rfl⟩ := hv; go_big_quiet_op; refine hK _ ?_; clear hK K)
            (repeat (refine wpM_via (by kernel_rfl) ?_; go_big_quiet_step (fail); refine wpQuiet_nil ?_))
            (refine wpM_only _ (.bool true) (by kernel_rfl) (by kernel_rfl) rfl (later_some _) ?_ ?_; (focus (intro x hx hk; obtain ⟨px, rfl⟩ := hx; go_simp; (first | with_reducible refine mUpon_enter ?_ | with_reducible refine mUpon_value ?_); go_at_call 26; exact (hSi _ X3 X4 x3 x4 (row_of (hk.2.1 (by kernel_rfl))) (row_of (hk.1 (by kernel_rfl)))).mod)); intro K hK; go_big_quiet_op; refine hK _ ?_; clear hK K)
            (repeat (refine wpM_via (by kernel_rfl) ?_; go_big_quiet_step (fail); refine wpQuiet_nil ?_))
            refine wpM_nil ?_; intro wq hwq hfq; have hbq := below_of_class hwq; clear hwq kq; (try dsimp only [List.drop])
            have q6' := q5'.step hbq
            have k6 := k5.step hbq
            have g6 := g5.then_ hbq (by have := g5.size; omega)
            go_wp2
            exact ⟨⟨k + 1, T1, L1, A1, c1, by omega, by go_num, q6', k6, hbr.trans g6⟩, by simp [intOf]; omega⟩
            -- d]
        · have hkn : ¬ (k : Int) < l.length := by omega
          go_wp2_with fail
          refine (awake_any _).mono ?_
          rintro e w' ⟨rfl, hb⟩
          go_wp2
          go_ret
          exact ⟨rfl, hbr.then_ hb hbr.size⟩
    · go_enter Try.func3, Try.ntmps3
      go_wp2_with fail
      refine (wh_New_bad _ s hok).mono ?_
      rintro e w1 ⟨rfl, hb1⟩
      go_wp2_with fail
      refine (rw_New_bad s hok _).mono ?_
      rintro e w2 ⟨rfl, hy2⟩
      replace hb1 := hb1.step hy2
      go_wp2_with fail
      generalize hV : World.alloc w2 _ = w3
      have hb3 : Below w.heap.size w w3 := by subst hV; (repeat (first | with_reducible exact Below.refl _ _ | with_reducible assumption | with_reducible refine Below.drew ?_ | with_reducible refine Below.drewN ?_ _ | with_reducible refine Below.alloc1 ?_ _ | with_reducible refine Below.setCell1 ?_ (by first | omega | (simp; done) | (simp; omega)) _ | with_reducible refine Below.step ?_ (by with_reducible assumption)))
      clear hV hb1 hy2
      go_loopw [9] (fun i wr => i = .int .i64 0 ∧ wr = w3) (fun i _ => 0)
      case atStart => exact ⟨rfl, rfl⟩
      case round =>
        obtain ⟨rfl, rfl⟩ := hrel
        by_cases h0 : (0 : Int) < l.length
        · go_wp2_with fail
          refine (awake_any _).mono ?_
          rintro e w' ⟨rfl, hb⟩
          go_wp2
          go_ret
          exact ⟨rfl, hb3.then_ hb hb3.size⟩
        · go_wp2_with fail
          refine (awake_any _).mono ?_
          rintro e w' ⟨rfl, hb⟩
          go_wp2
          go_ret
          exact ⟨rfl, hb3.then_ hb hb3.size⟩
end Go.Proofs.Ytbljiohdfjmhfaa
