/- Package chain: states in memory; Push. -/
import Derived.Test.YthicpjfdljgfpaaChr
import Derived.Test.YthicpjfdljgfpaaKeep
import Derived.Test.YthicpjfdljgfpaaRel3
namespace Go.Proofs.Ythicpjfdljgfpaa
open Go.RowKit Go.Sort
set_option linter.unusedSimpArgs false
set_option linter.unusedVariables false

/-- a state that can be read -/
def CsAt (w : World) (V : Value) (st : Ch) : Prop := ∃ A B C a b c, V = csV A B C a b c st.ns.length st.hs.length st.ts.length ∧ Rd w w.heap.size A (nds st.ns) ∧ Rd w w.heap.size B (ints st.hs) ∧ Rd w w.heap.size C (ints st.ts)
theorem CsAt.step {w w' : World} {V : Value} {st : Ch} (h : CsAt w V st) (hb : Below w.heap.size w w') : CsAt w' V st := by
  obtain ⟨A, B, C, a, b, c, e, r1, r2, r3⟩ := h
  exact ⟨A, B, C, a, b, c, e, r1.step hb, r2.step hb, r3.step hb⟩
/-- the same, in rows from block b on -/
structure RwN (b : Nat) (w : World) (T : TypeId) (A : Option Addr) (xs : List Value) : Prop where
  rd : Rd w w.heap.size A xs
  fr : Fr b A
  ty : TyA w T A
theorem RwN.step {b : Nat} {w w' : World} {T : TypeId} {A : Option Addr} {xs : List Value} (h : RwN b w T A xs) (hb : Below w.heap.size w w') : RwN b w' T A xs := ⟨h.rd.step hb, h.fr, h.ty.step hb⟩
theorem RwN.mono {b b' : Nat} {w : World} {T : TypeId} {A : Option Addr} {xs : List Value} (h : RwN b w T A xs) (hb : b' ≤ b) : RwN b' w T A xs := ⟨h.rd, h.fr.mono hb, h.ty⟩
theorem RwN.row {b g : Nat} {w : World} {T T' : TypeId} {A : Option Addr} {xs cs : List Value} (h : RwN b w T A xs) (q : Bk w g T' cs) (hne : T ≠ T') (cur : Array Value) : RwN b (w.setRow g cur) T A xs := by
  have h1 : ∀ ad, A = some ad → ad.block ≠ g := fun ad e e2 => by
    obtain ⟨c, fr, hg⟩ := h.ty ad e
    unfold Bk at q
    rw [e2, q] at hg
    injection hg with hg
    injection hg with _ hg _
    exact hne hg.symm
  exact ⟨h.rd.rowFar h1 cur, h.fr, h.ty.rowFar h1 cur⟩
theorem rwn_own {w : World} {b base : Nat} {e : TypeId} {size n c : Nat} {A : Option Addr} {xs : List Value} (h : w.ownsRow base e size (.slice A n c) n xs) (hb : b ≤ base) : RwN b w e A xs := ⟨own_rd h, (own_fr h).mono hb, own_ty h⟩
theorem rwn_bk {w : World} {b g : Nat} {T : TypeId} {xs pad : List Value} (h : Bk w g T (xs ++ pad)) (hb : b ≤ g) : RwN b w T (some ⟨g, 0, none⟩) xs :=
  ⟨by have := h.rd.take xs.length; rwa [List.take_left' rfl] at this, fun ad e => by (cases e; exact hb), fun ad e => by (cases e; exact ⟨_, _, h⟩)⟩
theorem rwn_none (b : Nat) (w : World) (T : TypeId) : RwN b w T none [] := ⟨Rd.nil, Fr.none _, fun _ h => by cases h⟩
def CsNew (b : Nat) (w : World) (V : Value) (st : Ch) : Prop := ∃ A B C a' b' c', V = csV A B C a' b' c' st.ns.length st.hs.length st.ts.length ∧ RwN b w 63 A (nds st.ns) ∧ RwN b w 3 B (ints st.hs) ∧ RwN b w 3 C (ints st.ts)
theorem CsNew.at_ {b : Nat} {w : World} {V : Value} {st : Ch} (h : CsNew b w V st) : CsAt w V st := by
  obtain ⟨A, B, C, a', b', c', e, r1, r2, r3⟩ := h
  exact ⟨A, B, C, a', b', c', e, r1.rd, r2.rd, r3.rd⟩
theorem CsNew.step {b : Nat} {w w' : World} {V : Value} {st : Ch} (h : CsNew b w V st) (hb : Below w.heap.size w w') : CsNew b w' V st := by
  obtain ⟨A, B, C, a', b', c', e, r1, r2, r3⟩ := h
  exact ⟨A, B, C, a', b', c', e, r1.step hb, r2.step hb, r3.step hb⟩
theorem CsNew.mono {b b' : Nat} {w : World} {V : Value} {st : Ch} (h : CsNew b w V st) (hb : b' ≤ b) : CsNew b' w V st := by
  obtain ⟨A, B, C, a, b, c, e, r1, r2, r3⟩ := h
  exact ⟨A, B, C, a, b, c, e, r1.mono hb, r2.mono hb, r3.mono hb⟩
/-- a store of a whole struct elsewhere -/
theorem CsNew.row {b g : Nat} {w : World} {V : Value} {st : Ch} {T : TypeId} {cs : List Value} (h : CsNew b w V st) (q : Bk w g T cs) (h1 : 63 ≠ T) (h2 : 3 ≠ T) (cur : Array Value) : CsNew b (w.setRow g cur) V st := by
  obtain ⟨A, B, C, a', b', c', e, r1, r2, r3⟩ := h
  exact ⟨A, B, C, a', b', c', e, r1.row q h1 cur, r2.row q h2 cur, r3.row q h2 cur⟩
/-- what a region's operation yields: a state (and an error) -/
def CsT (b : Nat) (st : Ch) (E : Int) : MSp := ⟨fun v => ∃ A B C a' b' c', v = .tuple #[csV A B C a' b' c' st.ns.length st.hs.length st.ts.length, .int .i64 E], fun v w => ∃ V, v = .tuple #[V, .int .i64 E] ∧ CsNew b w V st⟩
theorem sts_csT (b : Nat) (st : Ch) (E : Int) : ∀ v, Stays ((CsT b st E).S v) := fun v w w' ⟨V, e, h⟩ hb => ⟨V, e, h.step hb⟩
theorem csT_of {b : Nat} {st : Ch} {E : Int} {V : Value} {w : World} (h : (CsT b st E).S (.tuple #[V, .int .i64 E]) w) : CsNew b w V st := by
  obtain ⟨V', e, h⟩ := h
  injection e with e
  have : V = V' := by injection e with e; injection e
  rw [this]; exact h
theorem _root_.Go.Calls.mcsT {P : Program} {f : FuncId} {args : Array Value} {w : World} {b : Nat} {st : Ch} {E : Int} (hb : b ≤ w.heap.size) (h : Calls P f args w fun e w' => ∃ V, e = .returned (.tuple #[V, .int .i64 E]) ∧ CsNew w.heap.size w' V st ∧ Below w.heap.size w w') : Calls P f args w (mPost (CsT b st E) w) :=
  h.mono fun _ _ ⟨V, e, c, k⟩ => by
    obtain ⟨A, B, C, a', b', c', e2, r⟩ := c
    subst e2
    exact ⟨_, e, ⟨A, B, C, a', b', c', rfl⟩, ⟨_, rfl, (show CsNew _ _ _ _ from ⟨A, B, C, a', b', c', rfl, r⟩).mono hb⟩, k⟩
def CsS (b : Nat) (st : Ch) : MSp := ⟨fun v => ∃ A B C a' b' c', v = csV A B C a' b' c' st.ns.length st.hs.length st.ts.length, fun v w => CsNew b w v st⟩
theorem sts_csS (b : Nat) (st : Ch) : ∀ v, Stays ((CsS b st).S v) := fun v w w' h hb => h.step hb
theorem _root_.Go.Calls.mcsS {P : Program} {f : FuncId} {args : Array Value} {w : World} {b : Nat} {st : Ch} (hb : b ≤ w.heap.size) (h : Calls P f args w fun e w' => ∃ V, e = .returned V ∧ CsNew w.heap.size w' V st ∧ Below w.heap.size w w') : Calls P f args w (mPost (CsS b st) w) :=
  h.mono fun _ _ ⟨V, e, c, k⟩ => by
    obtain ⟨A, B, C, a', b', c', e2, r⟩ := c
    subst e2
    exact ⟨_, e, ⟨A, B, C, a', b', c', rfl⟩, (show CsNew _ _ _ _ from ⟨A, B, C, a', b', c', rfl, r⟩).mono hb, k⟩
theorem results_row_tmp {P : Program} {fn : Func} {p u : Tmp} {ty : TypeId} (h : fn.results = #[.cell p ty, .tmp u]) (tmps : Array Value) (w : World) (g : Nat) (t : TypeId) (cs : List Value) (d : TypeDesc)
    (hp : tmps.getD p undef = .pointer (some ⟨g, 0, none⟩)) (hg : Bk w g t cs) (hu : P.underlying ty = some d) (hd : (match d with | .struct _ | .array _ _ => true | _ => false) = true) (hi : (P.info? ty).map (·.size) = some cs.toArray.size) :
    (results fn tmps).run P w = .ok (.tuple #[.agg cs.toArray, tmps.getD u undef]) w := by
  have hp' : tmps[p]?.getD undef = .pointer (some ⟨g, 0, none⟩) := by simpa using hp
  simp [results, h, hp', asAddr, run_loadVar_row w g t ty cs.toArray (0, 0) d hg hu hd hi]
theorem own_rowfar {w : World} {base : Nat} {e : TypeId} {size n m d : Nat} {D : Option Addr} {xs : List Value} (o : w.ownsRow base e size (.slice D n d) m xs) {g : Nat} (hg : g < base) (cur : Array Value) : (w.setRow g cur).ownsRow base e size (.slice D n d) m xs := by
  obtain ⟨q1, q2⟩ := o
  refine ⟨q1, q2.imp id ?_⟩
  rintro ⟨k, cap, cu, e, hk, hh, r⟩
  exact ⟨k, cap, cu, e, hk, (setRow_other w g k _ (by omega)).trans hh, r⟩
theorem own_bk {w : World} {base : Nat} {e : TypeId} {size : Nat} {A : Option Addr} {n c : Nat} {xs : List Value} (h : w.ownsRow base e size (.slice A n c) n xs) (hn : 0 < n) :
    ∃ g pad, A = some ⟨g, 0, none⟩ ∧ base ≤ g ∧ n ≤ c ∧ Bk w g e (xs ++ pad) := by
  rcases h.2 with ⟨_, h0⟩ | ⟨g, cap, cur, hv, hg, hh, hc, _, _, ht⟩
  · omega
  · injection hv with h1 _ h3
    subst h1 h3
    refine ⟨g, cur.toList.drop (n * size), rfl, hg, hc, ?_⟩
    unfold Bk
    rw [← ht, List.take_append_drop]
    exact hh
theorem Bk.rdp {w : World} {g : Nat} {t : TypeId} {xs pad : List Value} (h : Bk w g t (xs ++ pad)) : Rd w w.heap.size (some ⟨g, 0, none⟩) xs := by
  have := h.rd.take xs.length
  rwa [List.take_left'] at this
  rfl
theorem Own3.at_ {w : World} {base gA gB gC a b c : Nat} {pA pB pC : List Value} {st : Ch} (o : Own3 w base gA gB gC pA pB pC st) : CsAt w (csV (some ⟨gA, 0, none⟩) (some ⟨gB, 0, none⟩) (some ⟨gC, 0, none⟩) a b c st.ns.length st.hs.length st.ts.length) st :=
  ⟨_, _, _, a, b, c, rfl, o.A.rdp, o.B.rdp, o.C.rdp⟩
theorem Own3.row {w : World} {base gA gB gC : Nat} {pA pB pC : List Value} {st : Ch} (h : Own3 w base gA gB gC pA pB pC st) {g : Nat} (hg : g < base) (cur : Array Value) : Own3 (w.setRow g cur) base gA gB gC pA pB pC st :=
  ⟨h.A.rowFar (by have := h.bA; omega) _, h.B.rowFar (by have := h.bB; omega) _, h.C.rowFar (by have := h.bC; omega) _, h.bA, h.bB, h.bC, h.ne⟩
theorem cPut_len (st : Ch) (i q : Nat) : (cPut st i q).ns.length = st.ns.length ∧ (cPut st i q).hs.length = st.hs.length ∧ (cPut st i q).ts.length = st.ts.length := by
  unfold cPut
  refine ⟨by simp [upd3_length], ?_, by simp⟩
  dsimp only; split <;> simp
theorem cCut_len (st : Ch) (q : Nat) : (cCut st q).ns.length = st.ns.length ∧ (cCut st q).hs.length = st.hs.length ∧ (cCut st q).ts.length = st.ts.length := by
  unfold cCut
  refine ⟨by simp [upd3_length], ?_, ?_⟩
  · dsimp only; split <;> simp
  · dsimp only; split <;> simp
/-- all links of a state that may be -/
theorem check_bd {st : Ch} (h : cCheck st = 0) : (1 ≤ st.ns.length ∧ 1 ≤ st.hs.length ∧ st.ts.length = st.hs.length) ∧ (∀ x ∈ st.ns, (-1 ≤ x.l ∧ x.l ≤ (st.hs.length : Int) - 1) ∧ (-1 ≤ x.n ∧ x.n ≤ (st.ns.length : Int) - 1) ∧ (-1 ≤ x.p ∧ x.p ≤ (st.ns.length : Int) - 1)) ∧ (∀ x ∈ st.hs, -1 ≤ x ∧ x ≤ (st.ns.length : Int) - 1) ∧ ∀ x ∈ st.ts, -1 ≤ x ∧ x ≤ (st.ns.length : Int) - 1 := by
  unfold cCheck at h
  by_cases h1 : cSize st = false
  · rw [if_pos h1] at h; omega
  · rw [if_neg h1] at h
    by_cases h2 : cLinks st = false
    · rw [if_pos h2] at h; omega
    · clear h
      simp only [cSize, cLinks, Bool.not_eq_false, Bool.and_eq_true, List.all_eq_true, cIn, decide_eq_true_eq, beq_iff_eq] at h1 h2
      refine ⟨by omega, fun x hx => ?_, fun x hx => ?_, fun x hx => ?_⟩
      · have := h2.1.1 x hx; omega
      · have := h2.1.2 x hx; omega
      · have := h2.2 x hx; omega
theorem Own3.new_ {w : World} {base gA gB gC a b c k : Nat} {pA pB pC : List Value} {st : Ch} (o : Own3 w base gA gB gC pA pB pC st) (hk : k ≤ base) : CsNew k w (csV (some ⟨gA, 0, none⟩) (some ⟨gB, 0, none⟩) (some ⟨gC, 0, none⟩) a b c st.ns.length st.hs.length st.ts.length) st :=
  ⟨_, _, _, a, b, c, rfl, rwn_bk o.A (Nat.le_trans hk o.bA), rwn_bk o.B (Nat.le_trans hk o.bB), rwn_bk o.C (Nat.le_trans hk o.bC)⟩
def cPush (st : Ch) (list at_ : Int) : Ch × Int :=
  if cCheck st ≠ 0 then (st, cCheck st) else if cIn list 0 ((st.hs.length : Int) - 1) = false then (st, 8) else if cIn at_ 0 ((st.ns.length : Int) - 1) = false then (st, 8) else if (st.ns.getD at_.toNat nd0).l ≠ -1 then (st, 13) else (cPut st list.toNat at_.toNat, 0)

set_option maxRecDepth 100000 in
set_option maxHeartbeats 8000000 in
theorem chain_Push_any (V : Value) (st : Ch) (list at_ : Int) (w : World) (h1 : st.ns.length ≤ 1000) (h2 : st.hs.length ≤ 1000) (h3 : st.ts.length ≤ 1000) (hV : CsAt w V st) :
    Calls Try.prog 10 #[V, .int .i64 list, .int .i64 at_] w fun e w' => ∃ V', e = .returned (.tuple #[V', .int .i64 (cPush st list at_).2]) ∧ CsNew w.heap.size w' V' (cPush st list at_).1 ∧ Below w.heap.size w w' := by
  obtain ⟨A, B, C, a, b, c, rfl, rA, rB, rC⟩ := hV
  have HR := hide (show cPush st list at_ = if cCheck st ≠ 0 then (st, cCheck st) else if cIn list 0 ((st.hs.length : Int) - 1) = false then (st, 8) else if cIn at_ 0 ((st.ns.length : Int) - 1) = false then (st, 8) else if (st.ns.getD at_.toNat nd0).l ≠ -1 then (st, 13) else (cPut st list.toNat at_.toNat, 0) from rfl)
  generalize cPush st list at_ = R at *
  go_enter Try.func10, Try.ntmps10
  go_wp2_with fail
  generalize hV : World.alloc (World.alloc w _) _ = w1
  have hb1 : Below w.heap.size w w1 := by subst hV; (repeat (first | with_reducible exact Below.refl _ _ | with_reducible assumption | with_reducible refine Below.drew ?_ | with_reducible refine Below.drewN ?_ _ | with_reducible refine Below.alloc1 ?_ _ | with_reducible refine Below.setCell1 ?_ (by first | omega | (simp; done) | (simp; omega)) _ | with_reducible refine Below.step ?_ (by with_reducible assumption)))
  have k0 : Bk w1 w.heap.size 30 (csC A B C a b c st.ns.length st.hs.length st.ts.length) := by subst hV; (repeat (first | with_reducible exact Bk.new' _ _ _ _ (by simp; done) | with_reducible assumption | with_reducible refine Bk.alloc ?_ _ | with_reducible refine Bk.drew ?_ | with_reducible refine Bk.drewN ?_ _ | with_reducible refine Bk.step ?_ (by with_reducible assumption) | with_reducible refine Bk.far ?_ (by first | omega | (simp; done) | (simp; omega)) _))
  have k1 : Bk w1 (w.heap.size + 1) 30 (csC none none none 0 0 0 0 0 0) := by subst hV; exact Bk.new' (World.alloc w _) 30 (csC none none none 0 0 0 0 0 0) _ (by simp)
  clear hV
  have lt1 := k1.lt
  replace rA := rA.step hb1; replace rB := rB.step hb1; replace rC := rC.step hb1
  refine (chain_own_ap A B C a b c st _ h1 h2 h3 rA rB rC).mono ?_; rintro e w2 ⟨A', B', C', a', b', c', rfl, oA, oB, oC, hne, hy⟩
  have k0_0 := k0.cell 0; have k0_f0 := k0.frozen 0; have k0_1 := k0.cell 1; have k0_f1 := k0.frozen 1; have k0_2 := k0.cell 2; have k0_f2 := k0.frozen 2; simp only [List.set_cons_zero, List.set_cons_succ, List.getElem?_cons_zero, List.getElem?_cons_succ] at k0_0 k0_1 k0_2; have lt_k0 := k0.lt
  replace k0 := k0.step hy; (try clear k0_0 k0_f0 k0_1 k0_f1 k0_2 k0_f2); have k0_0 := k0.cell 0; have k0_f0 := k0.frozen 0; have k0_1 := k0.cell 1; have k0_f1 := k0.frozen 1; have k0_2 := k0.cell 2; have k0_f2 := k0.frozen 2; simp only [List.set_cons_zero, List.set_cons_succ, List.getElem?_cons_zero, List.getElem?_cons_succ] at k0_0 k0_1 k0_2; (try clear lt_k0); have lt_k0 := k0.lt; replace k1 := k1.step hy; (try clear lt_k1); have lt_k1 := k1.lt
  replace rA := rA.step hy; replace rB := rB.step hy; replace rC := rC.step hy
  replace hb1 : Below w.heap.size w w2 := by (repeat (first | with_reducible exact Below.refl _ _ | with_reducible assumption | with_reducible refine Below.drew ?_ | with_reducible refine Below.drewN ?_ _ | with_reducible refine Below.alloc1 ?_ _ | with_reducible refine Below.setCell1 ?_ (by first | omega | (simp; done) | (simp; omega)) _ | with_reducible refine Below.step ?_ (by with_reducible assumption)))
  have hsz := hy.size
  have bkA : ∀ ad, A' = some ad → ad.block < w2.heap.size := fun ad e => (own_blk oA ad e).2
  have bkB : ∀ ad, B' = some ad → ad.block < w2.heap.size := fun ad e => (own_blk oB ad e).2
  have bkC : ∀ ad, C' = some ad → ad.block < w2.heap.size := fun ad e => (own_blk oC ad e).2
  clear hy
  go_wp2_with fail
  generalize hV : World.alloc w2 _ = w3
  have hy : Below w2.heap.size w2 w3 := by subst hV; (repeat (first | with_reducible exact Below.refl _ _ | with_reducible assumption | with_reducible refine Below.drew ?_ | with_reducible refine Below.drewN ?_ _ | with_reducible refine Below.alloc1 ?_ _ | with_reducible refine Below.setCell1 ?_ (by first | omega | (simp; done) | (simp; omega)) _ | with_reducible refine Below.step ?_ (by with_reducible assumption)))
  have k2 : Bk w3 w2.heap.size 30 (csC A' B' C' a' b' c' st.ns.length st.hs.length st.ts.length) := by subst hV; (repeat (first | with_reducible exact Bk.new' _ _ _ _ (by simp; done) | with_reducible assumption | with_reducible refine Bk.alloc ?_ _ | with_reducible refine Bk.drew ?_ | with_reducible refine Bk.drewN ?_ _ | with_reducible refine Bk.step ?_ (by with_reducible assumption) | with_reducible refine Bk.far ?_ (by first | omega | (simp; done) | (simp; omega)) _))
  clear hV
  replace k0 := k0.step hy; (try clear k0_0 k0_f0 k0_1 k0_f1 k0_2 k0_f2); have k0_0 := k0.cell 0; have k0_f0 := k0.frozen 0; have k0_1 := k0.cell 1; have k0_f1 := k0.frozen 1; have k0_2 := k0.cell 2; have k0_f2 := k0.frozen 2; simp only [List.set_cons_zero, List.set_cons_succ, List.getElem?_cons_zero, List.getElem?_cons_succ] at k0_0 k0_1 k0_2; (try clear lt_k0); have lt_k0 := k0.lt; replace k1 := k1.step hy; (try clear lt_k1); have lt_k1 := k1.lt
  replace rA := rA.step hy; replace rB := rB.step hy; replace rC := rC.step hy
  replace hb1 : Below w.heap.size w w3 := by (repeat (first | with_reducible exact Below.refl _ _ | with_reducible assumption | with_reducible refine Below.drew ?_ | with_reducible refine Below.drewN ?_ _ | with_reducible refine Below.alloc1 ?_ _ | with_reducible refine Below.setCell1 ?_ (by first | omega | (simp; done) | (simp; omega)) _ | with_reducible refine Below.step ?_ (by with_reducible assumption)))
  have lt2 := k2.lt
  refine (chain_Check_any A B C a b c st _ h1 h2 h3 rA rB rC).mono ?_; rintro e w4 ⟨rfl, hx⟩
  replace oA := own_below (own_below oA hy (Nat.le_refl _)) hx (Nat.le_refl _)
  replace oB := own_below (own_below oB hy (Nat.le_refl _)) hx (Nat.le_refl _)
  replace oC := own_below (own_below oC hy (Nat.le_refl _)) hx (Nat.le_refl _)
  replace k0 := k0.step hx; (try clear k0_0 k0_f0 k0_1 k0_f1 k0_2 k0_f2); have k0_0 := k0.cell 0; have k0_f0 := k0.frozen 0; have k0_1 := k0.cell 1; have k0_f1 := k0.frozen 1; have k0_2 := k0.cell 2; have k0_f2 := k0.frozen 2; simp only [List.set_cons_zero, List.set_cons_succ, List.getElem?_cons_zero, List.getElem?_cons_succ] at k0_0 k0_1 k0_2; (try clear lt_k0); have lt_k0 := k0.lt; replace k1 := k1.step hx; (try clear lt_k1); have lt_k1 := k1.lt; replace k2 := k2.step hx; (try clear lt_k2); have lt_k2 := k2.lt
  replace rA := rA.step hx; replace rB := rB.step hx
  replace hb1 : Below w.heap.size w w4 := by (repeat (first | with_reducible exact Below.refl _ _ | with_reducible assumption | with_reducible refine Below.drew ?_ | with_reducible refine Below.drewN ?_ _ | with_reducible refine Below.alloc1 ?_ _ | with_reducible refine Below.setCell1 ?_ (by first | omega | (simp; done) | (simp; omega)) _ | with_reducible refine Below.step ?_ (by with_reducible assumption)))
  (try clear k0_0 k0_f0 k0_1 k0_f1 k0_2 k0_f2 lt_k0)
  clear hx hy rC
  have hne1 : w.heap.size + 1 ≠ w2.heap.size := by omega
  by_cases hc : cCheck st = 0
  case neg =>
    have bc : (cCheck st != 0) = true := by simpa using hc
    have hR := hide (show R = (st, cCheck st) by rw [HR.out, if_pos hc])
    clear HR hc k0 rA rB
    generalize cCheck st = cv at *
    go_wp2_with (first | (refine wpList_load_row rfl 30 _ rfl _ rfl _ _ (0, 0) _ k2 Try.underlying30 rfl (by kernel_rfl) ?_) | (refine wpList_store_row rfl 30 _ _ rfl _ (csC A' B' C' a' b' c' st.ns.length st.hs.length st.ts.length).toArray rfl rfl _ _ k1 (by kernel_rfl) (by kernel_rfl) (by kernel_rfl) ?_))
    have r1 := k1.row (csC A' B' C' a' b' c' st.ns.length st.hs.length st.ts.length)
    refine bodyPost_ret (results_row_tmp rfl _ _ (w.heap.size + 1) _ _ _ rfl r1 Try.underlying30 rfl (by kernel_rfl)) rfl ⟨csV A' B' C' a' b' c' st.ns.length st.hs.length st.ts.length, ?_, ?_, setRow_below hb1 (by omega) _⟩
    · rw [hR.out]; rfl
    · rw [hR.out]; exact ⟨_, _, _, _, _, _, rfl, rwn_own (own_rowfar oA lt1 _) (by omega), rwn_own (own_rowfar oB lt1 _) (by omega), rwn_own (own_rowfar oC lt1 _) (by omega)⟩
  obtain ⟨⟨n1, hh1, hh2⟩, bn, bh, bt⟩ := check_bd hc
  have HR1 := hide (show R = if cIn list 0 ((st.hs.length : Int) - 1) = false then (st, 8) else if cIn at_ 0 ((st.ns.length : Int) - 1) = false then (st, 8) else if (st.ns.getD at_.toNat nd0).l ≠ -1 then (st, 13) else (cPut st list.toNat at_.toNat, 0) by rw [HR.out, if_neg (by simp [hc])])
  have bc : (cCheck st != 0) = false := by simpa using hc
  have HT := hide (show ∀ x ∈ st.ts, -1 ≤ x ∧ x ≤ (st.ns.length : Int) - 1 from bt)
  have HH2 := hide hh2
  clear HR bn bh bt hc hh2
  generalize cCheck st = cv at *
  have k0_0 := k0.cell 0; have k0_f0 := k0.frozen 0; have k0_1 := k0.cell 1; have k0_f1 := k0.frozen 1; have k0_2 := k0.cell 2; have k0_f2 := k0.frozen 2; simp only [List.set_cons_zero, List.set_cons_succ, List.getElem?_cons_zero, List.getElem?_cons_succ] at k0_0 k0_1 k0_2; have lt_k0 := k0.lt
  have hI := fun W => chain_is_any A B C a b c st.ns.length st.hs.length st.ts.length list W (by unfold maxLen; omega)
  have hA := fun W => chain_has_any A B C a b c st.ns.length st.hs.length st.ts.length at_ W (by unfold maxLen; omega)
  go_wp2_with (first | (refine wpList_load_row rfl 30 _ rfl _ rfl _ _ (0, 0) _ k2 Try.underlying30 rfl (by kernel_rfl) ?_))
  refine (hI _).mono ?_; rintro e w5 ⟨rfl, hx⟩
  replace k0 := k0.step hx; (try clear k0_0 k0_f0 k0_1 k0_f1 k0_2 k0_f2); have k0_0 := k0.cell 0; have k0_f0 := k0.frozen 0; have k0_1 := k0.cell 1; have k0_f1 := k0.frozen 1; have k0_2 := k0.cell 2; have k0_f2 := k0.frozen 2; simp only [List.set_cons_zero, List.set_cons_succ, List.getElem?_cons_zero, List.getElem?_cons_succ] at k0_0 k0_1 k0_2; (try clear lt_k0); have lt_k0 := k0.lt; replace k1 := k1.step hx; (try clear lt_k1); have lt_k1 := k1.lt; replace k2 := k2.step hx; (try clear lt_k2); have lt_k2 := k2.lt
  replace rA := rA.step hx; replace rB := rB.step hx
  replace oA := own_below oA hx (Nat.le_refl _)
  replace oB := own_below oB hx (Nat.le_refl _)
  replace oC := own_below oC hx (Nat.le_refl _)
  replace hb1 : Below w.heap.size w w5 := by (repeat (first | with_reducible exact Below.refl _ _ | with_reducible assumption | with_reducible refine Below.drew ?_ | with_reducible refine Below.drewN ?_ _ | with_reducible refine Below.alloc1 ?_ _ | with_reducible refine Below.setCell1 ?_ (by first | omega | (simp; done) | (simp; omega)) _ | with_reducible refine Below.step ?_ (by with_reducible assumption)))
  clear hx hI
  cases hv : cIn list 0 ((st.hs.length : Int) - 1)
  · have hR := hide (show R = (st, 8) by rw [HR1.out, if_pos hv])
    (try clear k0_0 k0_f0 k0_1 k0_f1 k0_2 k0_f2 lt_k0)
    clear HR1 hv hA k0 rA rB
    go_wp2_with (first | (refine wpList_load_row rfl 30 _ rfl _ rfl _ _ (0, 0) _ k2 Try.underlying30 rfl (by kernel_rfl) ?_) | (refine wpList_store_row rfl 30 _ _ rfl _ (csC A' B' C' a' b' c' st.ns.length st.hs.length st.ts.length).toArray rfl rfl _ _ k1 (by kernel_rfl) (by kernel_rfl) (by kernel_rfl) ?_))
    have r1 := k1.row (csC A' B' C' a' b' c' st.ns.length st.hs.length st.ts.length)
    refine bodyPost_ret (results_row_tmp rfl _ _ (w.heap.size + 1) _ _ _ rfl r1 Try.underlying30 rfl (by kernel_rfl)) rfl ⟨csV A' B' C' a' b' c' st.ns.length st.hs.length st.ts.length, ?_, ?_, setRow_below hb1 (by omega) _⟩
    · rw [hR.out]; rfl
    · rw [hR.out]; exact ⟨_, _, _, _, _, _, rfl, rwn_own (own_rowfar oA lt1 _) (by omega), rwn_own (own_rowfar oB lt1 _) (by omega), rwn_own (own_rowfar oC lt1 _) (by omega)⟩
  have hb := cIn_t hv
  obtain ⟨i, rfl⟩ : ∃ i : Nat, list = (i : Int) := ⟨list.toNat, by omega⟩
  have HR2 := hide (show R = if cIn at_ 0 ((st.ns.length : Int) - 1) = false then (st, 8) else if (st.ns.getD at_.toNat nd0).l ≠ -1 then (st, 13) else (cPut st i at_.toNat, 0) by rw [HR1.out, if_neg (by simp [hv])]; simp)
  have hi : i < st.hs.length := by omega
  clear HR1 hv hb
  go_wp2_with (first | (refine wpList_load_row rfl 30 _ rfl _ rfl _ _ (0, 0) _ k2 Try.underlying30 rfl (by kernel_rfl) ?_))
  refine (hA _).mono ?_; rintro e w6 ⟨rfl, hx⟩
  replace k0 := k0.step hx; (try clear k0_0 k0_f0 k0_1 k0_f1 k0_2 k0_f2); have k0_0 := k0.cell 0; have k0_f0 := k0.frozen 0; have k0_1 := k0.cell 1; have k0_f1 := k0.frozen 1; have k0_2 := k0.cell 2; have k0_f2 := k0.frozen 2; simp only [List.set_cons_zero, List.set_cons_succ, List.getElem?_cons_zero, List.getElem?_cons_succ] at k0_0 k0_1 k0_2; (try clear lt_k0); have lt_k0 := k0.lt; replace k1 := k1.step hx; (try clear lt_k1); have lt_k1 := k1.lt; replace k2 := k2.step hx; (try clear lt_k2); have lt_k2 := k2.lt
  replace rA := rA.step hx; replace rB := rB.step hx
  replace oA := own_below oA hx (Nat.le_refl _)
  replace oB := own_below oB hx (Nat.le_refl _)
  replace oC := own_below oC hx (Nat.le_refl _)
  replace hb1 : Below w.heap.size w w6 := by (repeat (first | with_reducible exact Below.refl _ _ | with_reducible assumption | with_reducible refine Below.drew ?_ | with_reducible refine Below.drewN ?_ _ | with_reducible refine Below.alloc1 ?_ _ | with_reducible refine Below.setCell1 ?_ (by first | omega | (simp; done) | (simp; omega)) _ | with_reducible refine Below.step ?_ (by with_reducible assumption)))
  clear hx hA
  cases hv : cIn at_ 0 ((st.ns.length : Int) - 1)
  · have hR := hide (show R = (st, 8) by rw [HR2.out, if_pos hv])
    (try clear k0_0 k0_f0 k0_1 k0_f1 k0_2 k0_f2 lt_k0)
    clear HR2 hv k0 rA rB
    go_wp2_with (first | (refine wpList_load_row rfl 30 _ rfl _ rfl _ _ (0, 0) _ k2 Try.underlying30 rfl (by kernel_rfl) ?_) | (refine wpList_store_row rfl 30 _ _ rfl _ (csC A' B' C' a' b' c' st.ns.length st.hs.length st.ts.length).toArray rfl rfl _ _ k1 (by kernel_rfl) (by kernel_rfl) (by kernel_rfl) ?_))
    have r1 := k1.row (csC A' B' C' a' b' c' st.ns.length st.hs.length st.ts.length)
    refine bodyPost_ret (results_row_tmp rfl _ _ (w.heap.size + 1) _ _ _ rfl r1 Try.underlying30 rfl (by kernel_rfl)) rfl ⟨csV A' B' C' a' b' c' st.ns.length st.hs.length st.ts.length, ?_, ?_, setRow_below hb1 (by omega) _⟩
    · rw [hR.out]; rfl
    · rw [hR.out]; exact ⟨_, _, _, _, _, _, rfl, rwn_own (own_rowfar oA lt1 _) (by omega), rwn_own (own_rowfar oB lt1 _) (by omega), rwn_own (own_rowfar oC lt1 _) (by omega)⟩
  have hb := cIn_t hv
  obtain ⟨q, rfl⟩ : ∃ q : Nat, at_ = (q : Int) := ⟨at_.toNat, by omega⟩
  have hq : q < st.ns.length := by omega
  have hqi : (q : Int) < (st.ns.length : Int) := by omega
  have HR3 := hide (show R = if st.ns[q].l ≠ -1 then (st, 13) else (cPut st i q, 0) by rw [HR2.out, if_neg (by simp [hv])]; simp [List.getD, hq])
  clear HR2 hv hb
  obtain ⟨ad, rfl, hadb, c1, c2, c3⟩ := rA.nd hq
  generalize st.ns[q] = x at *
  by_cases hl : x.l = -1
  case neg =>
    have hR := hide (show R = (st, 13) by rw [HR3.out, if_pos hl])
    have bl : (x.l != -1) = true := by simpa using hl
    clear HR3 hl
    go_wp2_with (first | (refine wpList_load_row rfl 30 _ rfl _ rfl _ _ (0, 0) _ k2 Try.underlying30 rfl (by kernel_rfl) ?_) | (refine wpList_store_row rfl 30 _ _ rfl _ (csC A' B' C' a' b' c' st.ns.length st.hs.length st.ts.length).toArray rfl rfl _ _ k1 (by kernel_rfl) (by kernel_rfl) (by kernel_rfl) ?_))
    have r1 := k1.row (csC A' B' C' a' b' c' st.ns.length st.hs.length st.ts.length)
    refine bodyPost_ret (results_row_tmp rfl _ _ (w.heap.size + 1) _ _ _ rfl r1 Try.underlying30 rfl (by kernel_rfl)) rfl ⟨csV A' B' C' a' b' c' st.ns.length st.hs.length st.ts.length, ?_, ?_, setRow_below hb1 (by omega) _⟩
    · rw [hR.out]; rfl
    · rw [hR.out]; exact ⟨_, _, _, _, _, _, rfl, rwn_own (own_rowfar oA lt1 _) (by omega), rwn_own (own_rowfar oB lt1 _) (by omega), rwn_own (own_rowfar oC lt1 _) (by omega)⟩
  have hR := hide (show R = (cPut st i q, 0) by rw [HR3.out, if_neg (by simp [hl])])
  rw [hl] at c1
  clear HR3 hl c2 c3 hadb
  obtain ⟨gA, pA, rfl, bA, cA, kA⟩ := own_bk oA (by omega)
  obtain ⟨gB, pB, rfl, bB, cB, kB⟩ := own_bk oB (by omega)
  obtain ⟨gC, pC, rfl, bC, cC, kC⟩ := own_bk oC (by have := HH2.out; omega)
  have o3 : Own3 w6 w1.heap.size gA gB gC pA pB pC st := ⟨kA, kB, kC, bA, bB, bC, hne _ _ rfl rfl⟩
  have ltA : gA < w2.heap.size := bkA _ rfl
  have ltB : gB < w2.heap.size := bkB _ rfl
  have ltC : gC < w2.heap.size := bkC _ rfl
  clear kA kB kC cA cB cC hne bkA bkB bkC oA oB oC
  go_wp2_with (first | (refine wpList_load_row rfl 30 _ rfl _ rfl _ _ (0, 0) _ k2 Try.underlying30 rfl (by kernel_rfl) ?_))
  refine (chain_put_any w1.heap.size gA gB gC a' b' c' st.ns.length st.hs.length st.ts.length pA pB pC st i q _ rfl rfl rfl h1 h2 h3 hq hi (by rw [HH2.out]; exact hi) HT.out o3).mono ?_; rintro e w7 ⟨rfl, o4, hg⟩
  (try clear k0_0 k0_f0 k0_1 k0_f1 k0_2 k0_f2 lt_k0)
  clear k0 c1
  replace k1 := k1.gr3 hg (by omega) (by omega) (by omega)
  replace k2 := k2.gr3 hg (by omega) (by omega) (by omega)
  replace hb1 : Below w.heap.size w w7 := hb1.trans (hg.below (by omega) (by omega) (by omega) (by omega))
  have lt_k1 := k1.lt
  have lt_k2 := k2.lt
  go_wp2_with (first | (refine wpList_load_row rfl 30 _ rfl _ rfl _ _ (0, 0) _ k2 Try.underlying30 rfl (by kernel_rfl) ?_) | (refine wpList_store_row rfl 30 _ _ rfl _ (csC (some ⟨gA, 0, none⟩) (some ⟨gB, 0, none⟩) (some ⟨gC, 0, none⟩) a' b' c' st.ns.length st.hs.length st.ts.length).toArray rfl rfl _ _ k1 (by kernel_rfl) (by kernel_rfl) (by kernel_rfl) ?_))
  have r1 := k1.row (csC (some ⟨gA, 0, none⟩) (some ⟨gB, 0, none⟩) (some ⟨gC, 0, none⟩) a' b' c' st.ns.length st.hs.length st.ts.length)
  refine bodyPost_ret (results_row_tmp rfl _ _ (w.heap.size + 1) _ _ _ rfl r1 Try.underlying30 rfl (by kernel_rfl)) rfl ⟨csV (some ⟨gA, 0, none⟩) (some ⟨gB, 0, none⟩) (some ⟨gC, 0, none⟩) a' b' c' st.ns.length st.hs.length st.ts.length, ?_, ?_, setRow_below hb1 (by omega) _⟩
  · rw [hR.out]; rfl
  · rw [hR.out]
    have := (o4.row lt1 (csC (some ⟨gA, 0, none⟩) (some ⟨gB, 0, none⟩) (some ⟨gC, 0, none⟩) a' b' c' st.ns.length st.hs.length st.ts.length).toArray).new_ (k := w.heap.size) (a := a') (b := b') (c := c') (by omega)
    rw [(cPut_len st i q).1, (cPut_len st i q).2.1, (cPut_len st i q).2.2] at this
    exact this
end Go.Proofs.Ythicpjfdljgfpaa
