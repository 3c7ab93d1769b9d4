/- Appends to rows of one's own, of slices that may be nothing; what st[:k], st[k:] are. No program in sight. -/
import Derived.Test.YtfbllioegeadfaaDoorRel4
import Derived.Deep.Upon
namespace Go.Proofs.YtfbllioegeadfaaDoor
open Go.RowKit Go.Sort
set_option linter.unusedSimpArgs false
set_option linter.unusedVariables false

/-- append of a slice (of nothing too) to a row of one's own -/
theorem wpList_app3 {P : Program} {w : World} {ops : Array Oper} {rest : List Oper} {o : Oper} {a : Act} {Q : Exit → Act → World → Prop} (hgd : o.guard = none) (s x : Operand) (t : TypeId)
    (ho : o.op = .call { callee := .builtin .append, args := #[s, x], argTypes := #[t, t] })
    (base : Nat) (e : TypeId) (i : TypeInfo) (z : Value) (size bytes : Nat) (ht : P.underlying t = some (.slice e)) (hi : P.info? e = some i) (hz : i.zero = some z)
    (hsize : i.size = size) (hby : i.bytes = bytes) (hzs : z.cells.size = size) (hsz : 0 < size)
    (A : Option Addr) (n c : Nat) (xs : List Value) (hs : a.eval s = .slice A n c) (hown : w.ownsRow base e size (.slice A n c) n xs)
    (X : Option Addr) (m c' : Nat) (news : List Value) (B : Nat) (hx : a.eval x = .slice X m c') (hl : news.length = m * size) (hnews : Rd w B X news) (h1 : ∀ u ∈ news, u.oneCell' = true)
    (h63 : n + m ≤ maxLen) (hbytes : (n + m) * bytes ≤ 140737488355328) (hbase : base ≤ w.heap.size)
    (h : ∀ A' cap w', w'.ownsRow base e size (.slice A' (n + m) cap) (n + m) (xs ++ news) → Below base w w' → w.grownBy w' (Value.slice A n c).ownBlock → wpList P ops Q rest (a.put o.dst (.slice A' (n + m) cap)) w') : wpList P ops Q (o :: rest) a w := by
  rcases X with _ | ad
  · have hn : news = [] := Classical.byContradiction fun hne => by
      obtain ⟨ad, e, _⟩ := hnews hne
      cases e
    subst hn
    have hm : m = 0 := by
      rcases Nat.eq_zero_or_pos m with h | h
      · exact h
      · have := Nat.mul_pos h hsz; simp at hl; omega
    subst hm
    have hnc : n ≤ c := by
      rcases hown.2 with ⟨hv, hn⟩ | ⟨g, cap, cur, hv, _, _, hle, _⟩
      · omega
      · cases hv; exact hle
    have hrun := fun ty => run_append_nothing (P := P) w t t ty e i ht hi A n c hnc (.slice none 0 c') (Src.ofNil w ht c')
    refine wpList_plain hgd fun K hK => ?_
    unfold Oper.wp
    simp [execOp, ho, resolve, invoke, builtin, hs, hx, hrun, Result.andThen]
    exact hK _ _ (h A c w (by simpa using hown) (Below.refl _ _) (Gr.refl w _))
  · refine wpList_append_own w hgd s x t ho base e i z size bytes ht hi hz hsize hby hzs hsz (.slice A n c) n xs hs hown ad m c' news hx hl ?_ h1 h63 hbytes hbase fun v' w' h2 h3 _ => ?_
    · intro j u hu
      obtain ⟨ad', e, _, hc⟩ := hnews (by rintro h0; rw [h0] at hu; simp at hu)
      injection e with e; subst e
      exact hc j u hu
    · obtain ⟨A', cap, rfl⟩ := own_form h2
      exact h A' cap w' h2 ((Below.refl base w).grown h3 hbase (fun k hk => (hown.lt k hk).1)) h3
theorem from_run {P : Program} {t e : TypeId} {size : Nat} (ht : P.underlying t = some (.slice e)) (he : P.elem t = e) (hs : ∀ W, (sizeOf e).run P W = .ok size W) (ad : Addr) (k n c : Nat) (v : Int) (hv : v = k) (hk : k ≤ n) (hn : n ≤ c) :
    ∃ A2, ((A2 = some ad ∧ c = k) ∨ A2 = some (ad.add (k * size))) ∧ (∀ W, (Instr.slice t (.slice (some ad) n c) (some (.int .i64 v)) none none).run P W = .ok (.slice A2 (n - k) (c - k)) W) ∧ (∀ W, (Instr.sliceAt t (.slice (some ad) n c) (some (.int .i64 v)) none none).run P W = .ok (.slice A2 (n - k) (c - k)) W) := by
  subst hv
  have hu : P.underlying t = some (.slice (P.elem t)) := by rw [he]; exact ht
  have hb : ∃ A2, ((A2 = some ad ∧ c = k) ∨ A2 = some (ad.add (k * size))) ∧ (∀ W, (Instr.slice t (.slice (some ad) n c) (some (.int .i64 (k : Int))) none none).run P W = .ok (.slice A2 (n - k) (c - k)) W) := by
    by_cases h1 : c = k
    · refine ⟨_, .inl ⟨rfl, h1⟩, fun W => ?_⟩
      rw [run_slice_l (ht := hu) (h0 := by omega) (h1 := by omega), he, hs]
      simp [sliced, h1]
    · refine ⟨_, .inr rfl, fun W => ?_⟩
      rw [run_slice_l (ht := hu) (h0 := by omega) (h1 := by omega), he, hs]
      simp [sliced, h1]
  obtain ⟨A2, h1, h2⟩ := hb
  exact ⟨A2, h1, h2, fun W => (run_sliceAt_slice W _ _ _ _ _ hu).trans (h2 W)⟩
theorem to_run {P : Program} {t e : TypeId} {size : Nat} (ht : P.underlying t = some (.slice e)) (he : P.elem t = e) (hs : ∀ W, (sizeOf e).run P W = .ok size W) (ad : Addr) (k n c : Nat) (hk : k ≤ c) :
    (∀ W, (Instr.slice t (.slice (some ad) n c) none (some (.int .i64 (k : Int))) none).run P W = .ok (.slice (some ad) k c) W) ∧ (∀ W, (Instr.sliceAt t (.slice (some ad) n c) none (some (.int .i64 (k : Int))) none).run P W = .ok (.slice (some ad) k c) W) := by
  have hu : P.underlying t = some (.slice (P.elem t)) := by rw [he]; exact ht
  have hb : (∀ W, (Instr.slice t (.slice (some ad) n c) none (some (.int .i64 (k : Int))) none).run P W = .ok (.slice (some ad) k c) W) := fun W => by
    rw [run_slice_h (ht := hu) (h0 := by omega) (h2 := by omega), he, hs]
    by_cases h1 : c = 0 <;> simp [sliced, h1, Addr.add]
  exact ⟨hb, fun W => (run_sliceAt_slice W _ _ _ _ _ hu).trans (hb W)⟩
theorem mUpon_appnil {P : Program} {o : Oper} {a : Act} {w : World} (s x : Operand) (t : TypeId) (hop : o.op = Op.call { callee := Callee.builtin Builtin.append, args := #[s, x], argTypes := #[t, t] })
    (e : TypeId) (i : TypeInfo) (z : Value) (size bytes : Nat) (h1 : P.underlying t = some (.slice e)) (h2 : P.info? e = some i) (h3 : i.zero = some z) (h4 : i.size = size) (h5 : i.bytes = bytes) (h6 : z.cells.size = size) (h7 : 0 < size)
    (base : Nat) (hbase : base ≤ w.heap.size) (hs : a.eval s = .slice none 0 0)
    (X : Option Addr) (m c : Nat) (news : List Value) (B : Nat) (hx : a.eval x = .slice X m c) (hn : news.length = m * size) (hc : Rd w B X news) (h1c : ∀ u ∈ news, u.oneCell' = true)
    (b1 : m ≤ maxLen) (b2 : m * bytes ≤ 140737488355328) : mUpon P (OwnAtR base e size m news) w ((execOp a.eval o).run P w) := by
  have hown : w.ownsRow base e size (.slice none 0 0) 0 [] := ⟨by simp, .inl ⟨rfl, rfl⟩⟩
  rcases X with _ | ad
  · have hn0 : news = [] := Classical.byContradiction fun hne => by
      obtain ⟨ad, e, _⟩ := hc hne
      cases e
    subst hn0
    have hm : m = 0 := by
      rcases Nat.eq_zero_or_pos m with h | h
      · exact h
      · have := Nat.mul_pos h h7; simp at hn; omega
    subst hm
    have hrun := fun ty => run_append_nothing (P := P) w t t ty e i h1 h2 none 0 0 (Nat.le_refl _) (.slice none 0 c) (Src.ofNil w h1 c)
    simp only [execOp, hop, resolve, invoke, builtin, Sem.run_bind, Sem.run_pure, Result.andThen_ok, List.map_toArray, List.map_cons, List.map_nil, hs, hx, hrun]
    exact ⟨⟨_, _, rfl⟩, ⟨_, _, rfl, hown⟩, Below.refl _ _⟩
  · have hnews : ∀ j u, news[j]? = some u → w.cell? (ad.add j) = some u := by
      intro j u hu
      obtain ⟨ad', e, _, hc⟩ := hc (by rintro h0; rw [h0] at hu; simp at hu)
      injection e with e; subst e
      exact hc j u hu
    obtain ⟨v', w', hr, r1, r2, _⟩ := run_append_own (P := P) w base t o.type e i z size bytes h1 h2 h3 h4 h5 h6 h7 (.slice none 0 0) 0 [] hown ad m c news hn hnews h1c (by simpa using b1) (by simpa using b2) hbase
    rw [Nat.zero_add, List.nil_append] at r1
    obtain ⟨B', d, rfl⟩ := own_form r1
    simp only [execOp, hop, resolve, invoke, builtin, Sem.run_bind, Sem.run_pure, Result.andThen_ok, List.map_toArray, List.map_cons, List.map_nil, hs, hx, hr]
    exact ⟨⟨_, _, rfl⟩, ⟨_, _, rfl, r1⟩, (Below.refl w.heap.size w).grown r2 (Nat.le_refl _) (fun k hk => by simp [Value.ownBlock] at hk)⟩
/-- st[:k] and st[k:] of a slice that may be nil -/
theorem to_runA {P : Program} {t e : TypeId} {size : Nat} (ht : P.underlying t = some (.slice e)) (he : P.elem t = e) (hs : ∀ W, (sizeOf e).run P W = .ok size W) (A : Option Addr) (k n c : Nat) (v : Int) (hv : v = k) (hk : k ≤ c) :
    (∀ W, (Instr.slice t (.slice A n c) none (some (.int .i64 v)) none).run P W = .ok (.slice A k c) W) ∧ (∀ W, (Instr.sliceAt t (.slice A n c) none (some (.int .i64 v)) none).run P W = .ok (.slice A k c) W) := by
  subst hv
  have hu : P.underlying t = some (.slice (P.elem t)) := by rw [he]; exact ht
  have hb : (∀ W, (Instr.slice t (.slice A n c) none (some (.int .i64 (k : Int))) none).run P W = .ok (.slice A k c) W) := fun W => by
    rw [run_slice_h (ht := hu) (h0 := by omega) (h2 := by omega), he, hs]
    have hm : A.map (fun a : Addr => a.add 0) = A := by cases A <;> simp [Addr.add]
    by_cases h1 : c = 0 <;> simp [sliced, h1, hm]
  exact ⟨hb, fun W => (run_sliceAt_slice W _ _ _ _ _ hu).trans (hb W)⟩
theorem from_runA {P : Program} {t e : TypeId} {size : Nat} (ht : P.underlying t = some (.slice e)) (he : P.elem t = e) (hs : ∀ W, (sizeOf e).run P W = .ok size W) (A : Option Addr) (k n c : Nat) (v : Int) (hv : v = k) (hk : k ≤ n) (hn : n ≤ c) :
    ∃ A2, (∀ w B xs, Rd w B A xs → xs.length = n * size → Rd w B A2 (xs.drop (k * size))) ∧ (∀ W, (Instr.slice t (.slice A n c) (some (.int .i64 v)) none none).run P W = .ok (.slice A2 (n - k) (c - k)) W) ∧ (∀ W, (Instr.sliceAt t (.slice A n c) (some (.int .i64 v)) none none).run P W = .ok (.slice A2 (n - k) (c - k)) W) := by
  subst hv
  have hu : P.underlying t = some (.slice (P.elem t)) := by rw [he]; exact ht
  have hb : ∃ A2, (∀ w B xs, Rd w B A xs → xs.length = n * size → Rd w B A2 (xs.drop (k * size))) ∧ (∀ W, (Instr.slice t (.slice A n c) (some (.int .i64 (k : Int))) none none).run P W = .ok (.slice A2 (n - k) (c - k)) W) := by
    by_cases h1 : c = k
    · refine ⟨A, fun w B xs _ hl => ?_, fun W => ?_⟩
      · rw [List.drop_eq_nil_of_le (by rw [hl, show n = k by omega]; exact Nat.le_refl _)]; exact Rd.nil
      · rw [run_slice_l (ht := hu) (h0 := by omega) (h1 := by omega), he, hs]
        simp [sliced, h1]
    · refine ⟨A.map (fun a : Addr => a.add (k * size)), fun w B xs h hl => ?_, fun W => ?_⟩
      · cases A with
        | none =>
          have : xs = [] := Classical.byContradiction fun hne => by obtain ⟨ad, e, _⟩ := h hne; cases e
          rw [this, List.drop_nil]; exact Rd.nil
        | some ad => exact h.drop _
      · rw [run_slice_l (ht := hu) (h0 := by omega) (h1 := by omega), he, hs]
        simp [sliced, h1]
  obtain ⟨A2, h1, h2⟩ := hb
  exact ⟨A2, h1, h2, fun W => (run_sliceAt_slice W _ _ _ _ _ hu).trans (h2 W)⟩
theorem rd_hnews {w : World} {B : Nat} {ad : Addr} {xs : List Value} (h : Rd w B (some ad) xs) : ∀ j u, xs[j]? = some u → w.cell? (ad.add j) = some u := by
  intro j u hu
  obtain ⟨ad', e, _, hc⟩ := h (by rintro h0; rw [h0] at hu; simp at hu)
  injection e with e; subst e
  exact hc j u hu
end Go.Proofs.YtfbllioegeadfaaDoor
