/- A region that draws its order, whose operations read, and whose callees and makings of memory lay new blocks only: walked once, in the order of the text, though what an operation yields may lean on memory that the region itself has laid. No program in sight. -/
import Derived.Test.YtfbllioegeadfaaDoorKit
import Derived.StillTail
import Derived.StillTailTactics
namespace Go.Proofs.YtfbllioegeadfaaDoor
open Go.RowKit Go.Sort
set_option linter.unusedSimpArgs false
set_option linter.unusedVariables false

/-- What a described operation yields: p of the value, S of the value and the world behind (kept by all that only lays new blocks). -/
structure MSp where
  p : Value → Prop
  S : Value → World → Prop
abbrev Fact := Nat × (World → Prop)
def allF : List Fact → World → Prop
  | [], _ => True
  | f :: l, w => f.2 w ∧ allF l w
def knownF (anc : Nat → Nat → Bool) (j : Nat) : List Fact → World → Prop
  | [], _ => True
  | f :: l, w => (anc j f.1 = true → f.2 w) ∧ knownF anc j l w
def Stays (S : World → Prop) : Prop := ∀ w w', S w → Below w.heap.size w w' → S w'
def mPost (sp : MSp) (w : World) (e : Ending) (w' : World) : Prop := ∃ v, e = .returned v ∧ sp.p v ∧ sp.S v w' ∧ Below w.heap.size w w'
def mUpon (P : Program) (sp : MSp) (w : World) : Result Next → Prop
  | .ok (.value v) w' => sp.p v ∧ sp.S v w' ∧ Below w.heap.size w w'
  | .ok (.enter f args) w' => w' = w ∧ Calls P f args w (mPost sp w)
  | _ => False
def plainUpon (w : World) (v : Value) : Result Next → Prop
  | .ok (.value u) w' => w' = w ∧ u = v
  | .ok .skip w' => w' = w ∧ v = undef
  | _ => False
def only (v : Value) : MSp := ⟨fun u => u = v, fun _ _ => True⟩
def NE (C : World → Prop) (l : List Fact) : Prop := ∃ w, C w ∧ allF l w

section
variable {P : Program} {ops : Array Oper} {md : Region.Mode} {anc : Nat → Nat → Bool} {specs : Nat → Option MSp} {C : World → Prop} {Q : Act → World → Prop} {n : Nat} {B : Array Bool → Bool}

theorem known_of_all {j : Nat} : ∀ {l : List Fact} {w : World}, allF l w → knownF anc j l w
  | [], _, _ => trivial
  | _ :: _, _, h => ⟨fun _ => h.1, known_of_all h.2⟩
theorem all_stays : ∀ {l : List Fact}, (∀ f ∈ l, Stays f.2) → Stays (allF l)
  | [], _ => fun _ _ _ _ => trivial
  | f :: l, h => fun w w' ha hb => ⟨h f (by simp) w w' ha.1 hb, all_stays (fun g hg => h g (by simp [hg])) w w' ha.2 hb⟩

/-- l says no more than l' -/
def LeF (anc : Nat → Nat → Bool) (l l' : List Fact) : Prop := (∀ w, allF l' w → allF l w) ∧ ∀ j w, knownF anc j l' w → knownF anc j l w
theorem LeF.refl (l : List Fact) : LeF anc l l := ⟨fun _ h => h, fun _ _ h => h⟩
theorem LeF.cons {l l' : List Fact} (h : LeF anc l l') (f : Fact) : LeF anc (f :: l) (f :: l') := ⟨fun w a => ⟨a.1, h.1 w a.2⟩, fun j w a => ⟨a.1, h.2 j w a.2⟩⟩
theorem LeF.swap (f g : Fact) (l : List Fact) : LeF anc (f :: g :: l) (g :: f :: l) := ⟨fun _ a => ⟨a.2.1, a.1, a.2.2⟩, fun _ _ a => ⟨a.2.1, a.1, a.2.2⟩⟩
theorem LeF.drop (f : Fact) (l : List Fact) : LeF anc l (f :: l) := ⟨fun _ a => a.2, fun _ _ a => a.2⟩
theorem LeF.true_ (i : Nat) (l : List Fact) : LeF anc ((i, fun _ => True) :: l) l := ⟨fun _ a => ⟨trivial, a⟩, fun _ _ a => ⟨fun _ => trivial, a⟩⟩
theorem NE.le {l l' : List Fact} (h : LeF anc l l') (hn : NE C l') : NE C l := let ⟨w, hc, ha⟩ := hn; ⟨w, hc, h.1 w ha⟩

def mOp (P : Program) (ops : Array Oper) (anc : Nat → Nat → Bool) (specs : Nat → Option MSp) (C : World → Prop) (i : Nat) (K : List Fact → Act → Prop) (l : List Fact) (a : Act) : Prop :=
  match ops[i]? with
  | none => K l a
  | some o =>
    if Region.wanted o (yielded ops a.tmps) then
      match specs i with
      | some sp => (∀ w, C w → knownF anc i l w → mUpon P sp w ((execOp a.eval o).run P w)) ∧ ∀ v, sp.p v → NE C ((i, sp.S v) :: l) → K ((i, sp.S v) :: l) (a.put o.dst v)
      | none => ∃ v, (∀ w, C w → knownF anc i l w → plainUpon w v ((execOp a.eval o).run P w)) ∧ K l (a.put o.dst v)
    else K l (a.put o.dst undef)

def wpAnyM (P : Program) (md : Region.Mode) (ops : Array Oper) (anc : Nat → Nat → Bool) (specs : Nat → Option MSp) (C : World → Prop) (n : Nat) (B : Array Bool → Bool) (Q : Act → World → Prop) : Nat → Array Bool → List Fact → Act → Prop
  | 0, listed, l, a => B listed = true ∧ ∀ w, C w → allF l w → Q a w
  | fuel + 1, listed, l, a => Region.ready md ops listed ≠ [] ∧
    ∀ i ∈ Region.ready md ops listed, i < n ∧ mOp P ops anc specs C i (wpAnyM P md ops anc specs C n B Q fuel (listed.setIfInBounds i true)) l a

theorem mOp_mono {i : Nat} {K K' : List Fact → Act → Prop} {l l' : List Fact} {a : Act} (hl : LeF anc l l') (hK : ∀ m m' b, LeF anc m m' → K m b → K' m' b) (h : mOp P ops anc specs C i K l a) : mOp P ops anc specs C i K' l' a := by
  unfold mOp at *
  split
  · rename_i ho; simp only [ho] at h; exact hK _ _ _ hl h
  · rename_i o ho
    simp only [ho] at h
    split
    · rename_i hw
      simp only [hw, if_true] at h
      split
      · rename_i sp hs
        simp only [hs] at h
        exact ⟨fun w hc hk => h.1 w hc (hl.2 _ w hk), fun v hp hn => hK _ _ _ (hl.cons _) (h.2 v hp (NE.le (hl.cons _) hn))⟩
      · rename_i hs
        simp only [hs] at h
        obtain ⟨v, h1, h2⟩ := h
        exact ⟨v, fun w hc hk => h1 w hc (hl.2 _ w hk), hK _ _ _ hl h2⟩
    · rename_i hw; simp only [hw] at h; exact hK _ _ _ hl h

theorem wpAnyM_le : ∀ (fuel : Nat) (listed : Array Bool) (l l' : List Fact) (a : Act), LeF anc l l' → wpAnyM P md ops anc specs C n B Q fuel listed l a → wpAnyM P md ops anc specs C n B Q fuel listed l' a
  | 0, _, _, _, _, hl, h => ⟨h.1, fun w hc ha => h.2 w hc (hl.1 w ha)⟩
  | fuel + 1, _, _, _, _, hl, h => ⟨h.1, fun i hi => ⟨(h.2 i hi).1, mOp_mono hl (fun m m' b hm hb => wpAnyM_le fuel _ m m' b hm hb) (h.2 i hi).2⟩⟩

/-- It is a wpAny, from every world of the class in which the facts hold. -/
theorem wpAny_of_M {Q' : Exit → Act → World → Prop} (hC : ∀ w w', C w → Below w.heap.size w w' → C w') (hst : ∀ i sp v, specs i = some sp → Stays (sp.S v)) {g : Nat} (hQ : ∀ listed a w, B listed = true → Q a w → wpAny P md ops Q' g listed a w) :
    ∀ (fuel : Nat) (listed : Array Bool) (l : List Fact) (a : Act) (w : World), (∀ f ∈ l, Stays f.2) → C w → allF l w → wpAnyM P md ops anc specs C n B Q fuel listed l a → wpAny P md ops Q' (fuel + g) listed a w
  | 0, _, _, _, w, _, hc, ha, h => by rw [Nat.zero_add]; exact hQ _ _ _ h.1 (h.2 w hc ha)
  | fuel + 1, listed, l, a, w, hl, hc, ha, h => by
    rw [show fuel + 1 + g = (fuel + g) + 1 by omega]
    refine ⟨fun h0 => absurd h0 h.1, fun i hi => ?_⟩
    have h1 := (h.2 i hi).2
    unfold mOp at h1
    unfold wpOp
    split
    · rename_i ho; simp only [ho] at h1; exact wpAny_of_M hC hst hQ fuel _ l a w hl hc ha h1
    · rename_i o ho
      simp only [ho] at h1
      split
      · rename_i hw
        simp only [hw, if_true] at h1
        refine .inl ?_
        unfold Oper.wp
        split at h1
        · rename_i sp hs
          have h2 := h1.1 w hc (known_of_all ha)
          generalize (execOp a.eval o).run P w = r at *
          have hl' : ∀ v, ∀ f ∈ ((i, sp.S v) :: l : List Fact), Stays f.2 := fun v f hf => by
            rcases List.mem_cons.1 hf with rfl | hf
            · exact hst i sp v hs
            · exact hl f hf
          cases r with
          | ok n w' =>
            cases n <;> simp only [mUpon] at h2
            case value u =>
              simp only [Oper.upon]
              have ha' : allF ((i, sp.S u) :: l) w' := ⟨h2.2.1, all_stays hl w w' ha h2.2.2⟩
              have hc' := hC w w' hc h2.2.2
              exact wpAny_of_M hC hst hQ fuel _ _ _ w' (hl' u) hc' ha' (h1.2 u h2.1 ⟨w', hc', ha'⟩)
            case enter f args =>
              obtain ⟨e1, h3⟩ := h2
              subst e1
              simp only [Oper.upon]
              refine h3.mono fun e w'' ⟨v, he, hp, hS, hb⟩ => ?_
              subst he
              have ha' : allF ((i, sp.S v) :: l) w'' := ⟨hS, all_stays hl _ w'' ha hb⟩
              have hc' := hC _ w'' hc hb
              exact wpAny_of_M hC hst hQ fuel _ _ _ w'' (hl' v) hc' ha' (h1.2 v hp ⟨w'', hc', ha'⟩)
          | halt x w' => simp only [mUpon] at h2
        · obtain ⟨v, h2, h3⟩ := h1
          have h2 := h2 w hc (known_of_all ha)
          generalize (execOp a.eval o).run P w = r at *
          cases r with
          | ok n w' =>
            cases n <;> simp only [plainUpon] at h2
            case value u =>
              obtain ⟨rfl, rfl⟩ := h2
              simp only [Oper.upon]
              exact wpAny_of_M hC hst hQ fuel _ _ _ _ hl hc ha h3
            case skip =>
              obtain ⟨rfl, rfl⟩ := h2
              simp only [Oper.upon]
              exact wpAny_of_M hC hst hQ fuel _ _ _ _ hl hc ha h3
          | halt x w' => simp only [plainUpon] at h2
      · rename_i hw
        simp only [hw] at h1
        exact wpAny_of_M hC hst hQ fuel _ l _ w hl hc ha h1

/-- what operation oi (number i) yields in this state -/
def oY (P : Program) (ops : Array Oper) (anc : Nat → Nat → Bool) (specs : Nat → Option MSp) (C : World → Prop) (i : Nat) (oi : Oper) (sp : MSp) (l : List Fact) (a : Act) : Prop :=
  (Region.wanted oi (yielded ops a.tmps) = true ∧ specs i = some sp ∧ ∀ w, C w → knownF anc i l w → mUpon P sp w ((execOp a.eval oi).run P w)) ∨
  (Region.wanted oi (yielded ops a.tmps) = true ∧ specs i = none ∧ ∃ v, sp = only v ∧ ∀ w, C w → knownF anc i l w → plainUpon w v ((execOp a.eval oi).run P w)) ∨
  (Region.wanted oi (yielded ops a.tmps) = false ∧ sp = only undef)

theorem oY.same {i : Nat} {oi : Oper} {sp : MSp} {l l' : List Fact} {a a' : Act} (h : oY P ops anc specs C i oi sp l a) (hl : LeF anc l l') (he : execOp a'.eval oi = execOp a.eval oi)
    (hw : Region.wanted oi (yielded ops a'.tmps) = Region.wanted oi (yielded ops a.tmps)) : oY P ops anc specs C i oi sp l' a' := by
  unfold oY at *
  rw [he, hw]
  rcases h with ⟨h1, h2, h3⟩ | ⟨h1, h2, v, h3, h4⟩ | h
  · exact .inl ⟨h1, h2, fun w hc hk => h3 w hc (hl.2 _ w hk)⟩
  · exact .inr (.inl ⟨h1, h2, v, h3, fun w hc hk => h4 w hc (hl.2 _ w hk)⟩)
  · exact .inr (.inr h)

theorem oY.mOp {i : Nat} {oi : Oper} {sp : MSp} {l : List Fact} {a : Act} {K : List Fact → Act → Prop} (hi : ops[i]? = some oi) (hK : ∀ m m' b, LeF anc m m' → K m b → K m' b) (hn : NE C l) (h : oY P ops anc specs C i oi sp l a)
    (H : ∀ v, sp.p v → NE C ((i, sp.S v) :: l) → K ((i, sp.S v) :: l) (a.put oi.dst v)) : mOp P ops anc specs C i K l a := by
  unfold Go.Proofs.YtfbllioegeadfaaDoor.mOp
  simp only [hi]
  rcases h with ⟨h1, h2, h3⟩ | ⟨h1, h2, v, rfl, h4⟩ | ⟨h1, rfl⟩
  · simp only [h1, if_true, h2]; exact ⟨h3, H⟩
  · simp only [h1, if_true, h2]; exact ⟨v, h4, hK _ _ _ (LeF.true_ i l) (H v rfl (hn.le (LeF.true_ (anc := anc) i l)))⟩
  · simp only [h1, Bool.false_eq_true, if_false]; exact hK _ _ _ (LeF.true_ i l) (H undef rfl (hn.le (LeF.true_ (anc := anc) i l)))

/-- there is something that it yields -/
theorem oY.some {i : Nat} {oi : Oper} {sp : MSp} {l : List Fact} {a : Act} (hC : ∀ w w', C w → Below w.heap.size w w' → C w') (hl : ∀ f ∈ l, Stays f.2) (hn : NE C l) (h : oY P ops anc specs C i oi sp l a) : ∃ v, sp.p v ∧ NE C ((i, sp.S v) :: l) := by
  obtain ⟨w, hc, ha⟩ := hn
  rcases h with ⟨h1, h2, h3⟩ | ⟨h1, h2, v, rfl, h4⟩ | ⟨h1, rfl⟩
  · have h4 := h3 w hc (known_of_all ha)
    generalize (execOp a.eval oi).run P w = r at *
    cases r with
    | ok n w' =>
      cases n <;> simp only [mUpon] at h4
      case value u => exact ⟨u, h4.1, w', hC w w' hc h4.2.2, h4.2.1, all_stays hl w w' ha h4.2.2⟩
      case enter f args =>
        obtain ⟨rfl, h5⟩ := h4
        obtain ⟨e, w'', fr, ⟨v, he, hp, hS, hb⟩, _⟩ := h5 []
        exact ⟨v, hp, w'', hC _ w'' hc hb, hS, all_stays hl _ w'' ha hb⟩
    | halt x w' => simp only [mUpon] at h4
  · exact ⟨v, rfl, w, hc, trivial, ha⟩
  · exact ⟨undef, rfl, w, hc, trivial, ha⟩

def Shut (anc : Nat → Nat → Bool) (listed : Array Bool) : Prop := ∀ k, listed.getD k false = true → ∀ b, anc k b = true → listed.getD b false = true
def AncOk (md : Region.Mode) (ops : Array Oper) (anc : Nat → Nat → Bool) : Prop := ∀ j oj b, ops[j]? = some oj → anc j b = true → ∃ e ∈ oj.after, Region.binds md e = true ∧ (e.on = b ∨ anc e.on b = true)

theorem ready_anc (hA : AncOk md ops anc) {listed : Array Bool} (hs : Shut anc listed) {j : Nat} (hj : j ∈ Region.ready md ops listed) {b : Nat} (hb : anc j b = true) : listed.getD b false = true := by
  obtain ⟨_, oj, hoj, hall⟩ := mem_ready.1 hj
  obtain ⟨e, he, hbind, h⟩ := hA j oj b hoj hb
  have hl := hall e he hbind
  rcases h with rfl | h
  · exact hl
  · exact hs _ hl _ h
theorem Shut.set (hA : AncOk md ops anc) {listed : Array Bool} (hs : Shut anc listed) {j : Nat} (hj : j ∈ Region.ready md ops listed) : Shut anc (listed.setIfInBounds j true) := fun k hk b hb => by
  by_cases hjk : j = k
  · subst hjk; exact getD_set_true (ready_anc hA hs hj hb)
  · rw [getD_set_ne false hjk] at hk; exact getD_set_true (hs k hk b hb)
theorem not_anc (hA : AncOk md ops anc) {listed : Array Bool} (hs : Shut anc listed) {i j : Nat} (hi : i ∈ Region.ready md ops listed) (hj : j ∈ Region.ready md ops listed) : anc j i = false := by
  cases h : anc j i
  · rfl
  · have h1 := ready_anc hA hs hj h
    have h0 := (mem_ready.1 hi).1
    rcases Nat.lt_or_ge i listed.size with h' | h'
    · simp [h'] at h0 h1; rw [h0] at h1; cases h1
    · simp [Array.getElem?_eq_none h'] at h1
theorem known_add {anc : Nat → Nat → Bool} {i j : Nat} (h : anc j i = false) {S : World → Prop} {l : List Fact} {w : World} (hk : knownF anc j l w) : knownF anc j ((i, S) :: l) w := ⟨(fun h' => by rw [h] at h'; cases h'), hk⟩
theorem plain_one {w : World} {u v : Value} {r : Result Next} (h1 : plainUpon w u r) (h2 : plainUpon w v r) : u = v := by
  cases r with
  | ok n w' =>
    cases n <;> simp only [plainUpon] at h1 h2
    case value x => exact h1.2.symm.trans h2.2
    case skip => exact h1.2.trans h2.2.symm
  | halt x w' => simp only [plainUpon] at h1

theorem wpAnyM_first {Inv : Array Bool → Prop} (hInv : ∀ listed i, Inv listed → i ∈ Region.ready md ops listed → i < n → Inv (listed.setIfInBounds i true))
    (hT : ∀ listed, Inv listed → ∀ i, i < n → listed.getD i true = false → ∀ j ∈ Region.ready md ops listed, j < n) (hBd : ∀ listed, B listed = true → ∀ j ∈ Region.ready md ops listed, n ≤ j)
    (hA : AncOk md ops anc) (hC : ∀ w w', C w → Below w.heap.size w w' → C w') (hst : ∀ i sp v, specs i = some sp → Stays (sp.S v)) {i : Nat} {oi : Oper} {sp : MSp} (hi : ops[i]? = some oi) (hin : i < n) (hsi : ∀ v, Stays (sp.S v))
    (hsel : ∀ (j : Nat) (o : Oper) cs b, ops[j]? = some o → o.op ≠ .select cs b) :
    ∀ (fuel : Nat) (listed : Array Bool) (l : List Fact) (a : Act), Inv listed → Shut anc listed →
      (∀ j oj, ops[j]? = some oj → j ≠ i → listed.getD j true = false → (∀ e ∈ oj.after, Region.binds md e = true → e.on ≠ i) → oi.apart ops oj = true) →
      i ∈ Region.ready md ops listed → (∀ f ∈ l, Stays f.2) → NE C l → oY P ops anc specs C i oi sp l a →
      (∀ v, sp.p v → NE C ((i, sp.S v) :: l) → wpAnyM P md ops anc specs C n B Q fuel (listed.setIfInBounds i true) ((i, sp.S v) :: l) (a.put oi.dst v)) → wpAnyM P md ops anc specs C n B Q (fuel + 1) listed l a := by
  intro fuel
  induction fuel with
  | zero =>
    intro listed l a inv hsh _ hr hl hn hy H
    have hjn := hT listed inv i hin (mem_ready.1 hr).1
    refine ⟨fun h => (by rw [h] at hr; cases hr), fun j hj => ⟨hjn j hj, ?_⟩⟩
    by_cases hji : j = i
    · subst hji; exact hy.mOp hi (fun m m' b hm hb => wpAnyM_le _ _ _ _ _ hm hb) hn H
    · obtain ⟨v, hp, hnv⟩ := hy.some hC hl hn
      have h1 := hBd _ (H v hp hnv).1 j (ready_mono hj hji)
      have h2 := hjn j hj
      omega
  | succ fuel ih =>
    intro listed l a inv hsh hfree hr hl hn hy H
    have hjn := hT listed inv i hin (mem_ready.1 hr).1
    refine ⟨fun h => (by rw [h] at hr; cases hr), fun j hj => ⟨hjn j hj, ?_⟩⟩
    by_cases hji : j = i
    · subst hji; exact hy.mOp hi (fun m m' b hm hb => wpAnyM_le _ _ _ _ _ hm hb) hn H
    · obtain ⟨v0, hp0, hn0⟩ := hy.some hC hl hn
      have hai : anc j i = false := not_anc hA hsh hr hj
      obtain ⟨hjun, oj, hoj, hall⟩ := mem_ready.1 hj
      have hnot : ∀ e ∈ oj.after, Region.binds md e = true → e.on ≠ i := fun e he hb heq => by
        have h1 := hall e he hb
        have h0 := (mem_ready.1 hr).1
        rw [heq] at h1
        rcases Nat.lt_or_ge i listed.size with h' | h'
        · simp [h'] at h0 h1; rw [h0] at h1; cases h1
        · simp [Array.getElem?_eq_none h'] at h1
      obtain ⟨a1, a2, a3⟩ := Oper.apart_spec (hfree j oj hoj hji hjun hnot)
      have hfree' : ∀ k ok, ops[k]? = some ok → k ≠ i → (listed.setIfInBounds j true).getD k true = false →
          (∀ e ∈ ok.after, Region.binds md e = true → e.on ≠ i) → oi.apart ops ok = true := fun k ok hk hki hun hno => by
        refine hfree k ok hk hki ?_ hno
        by_cases hjk : j = k
        · subst hjk; exact hjun
        · rw [getD_set_ne true hjk] at hun; exact hun
      have hr' := ready_mono hr (Ne.symm hji)
      have hsh' := hsh.set hA hj
      have inv' := hInv _ _ inv hj (hjn j hj)
      have selj := fun cs b => hsel j oj cs b hoj
      have seli := fun cs b => hsel i oi cs b hi
      have H2 : ∀ v, sp.p v → NE C ((i, sp.S v) :: l) → _ := fun v hp hnv => ((H v hp hnv).2 j (ready_mono hj hji)).2
      have keep : ∀ (l' : List Fact) u, LeF anc l l' → oY P ops anc specs C i oi sp l' (a.put oj.dst u) := fun l' u hl' => hy.same hl' (execOp_put oi seli a oj.dst u a3) (wanted_put oi a oj.dst u a3)
      unfold mOp
      simp only [hoj]
      by_cases hw : Region.wanted oj (yielded ops a.tmps) = true
      · simp only [hw, if_true]
        cases hsj : specs j with
        | some sj =>
          simp only []
          have H3 : ∀ v, sp.p v → NE C ((i, sp.S v) :: l) → _ := fun v hp hnv => by
            have h := H2 v hp hnv
            unfold mOp at h
            simp only [hoj, wanted_put oj a oi.dst v a1, hw, if_true, hsj, execOp_put oj selj a oi.dst v a1] at h
            exact h
          refine ⟨fun w hc hk => (H3 v0 hp0 hn0).1 w hc (known_add hai hk), fun u hq hnu => ?_⟩
          refine ih (listed.setIfInBounds j true) ((j, sj.S u) :: l) _ inv' hsh' hfree' hr' (fun f hf => ?_) hnu (keep _ u (LeF.drop _ _)) (fun v hp hnv => ?_)
          · rcases List.mem_cons.1 hf with rfl | hf
            · exact hst j sj u hsj
            · exact hl f hf
          · have hnv' : NE C ((j, sj.S u) :: (i, sp.S v) :: l) := hnv.le (LeF.swap (anc := anc) _ _ _)
            have h := (H3 v hp (hnv'.le (LeF.drop (anc := anc) _ _))).2 u hq hnv'
            rw [Array.setIfInBounds_comm _ _ hji, ← Act.put_comm a v u a2]
            exact wpAnyM_le _ _ _ _ _ (LeF.swap _ _ _) h
        | none =>
          simp only []
          have H3 : ∀ v, sp.p v → NE C ((i, sp.S v) :: l) → _ := fun v hp hnv => by
            have h := H2 v hp hnv
            unfold mOp at h
            simp only [hoj, wanted_put oj a oi.dst v a1, hw, if_true, hsj, execOp_put oj selj a oi.dst v a1] at h
            exact h
          obtain ⟨u, hu, hu2⟩ := H3 v0 hp0 hn0
          refine ⟨u, fun w hc hk => hu w hc (known_add hai hk), ?_⟩
          refine ih (listed.setIfInBounds j true) l _ inv' hsh' hfree' hr' hl hn (keep _ u (LeF.refl _)) (fun v hp hnv => ?_)
          obtain ⟨u', hu', hu2'⟩ := H3 v hp hnv
          obtain ⟨w, hc, ha⟩ := hn
          obtain rfl : u' = u := plain_one (hu' w hc (known_add hai (known_of_all ha))) (hu w hc (known_add hai (known_of_all ha)))
          rw [Array.setIfInBounds_comm _ _ hji, ← Act.put_comm a v u' a2]
          exact hu2'
      · have hw' : Region.wanted oj (yielded ops a.tmps) = false := by simpa using hw
        simp only [hw', Bool.false_eq_true, if_false]
        refine ih (listed.setIfInBounds j true) l _ inv' hsh' hfree' hr' hl hn (keep _ undef (LeF.refl _)) (fun v hp hnv => ?_)
        have h := H2 v hp hnv
        unfold mOp at h
        simp only [hoj, wanted_put oj a oi.dst v a1, hw', Bool.false_eq_true, if_false] at h
        rw [Array.setIfInBounds_comm _ _ hji, ← Act.put_comm a v undef a2]
        exact h

/-- The walk in the order of the text. -/
def wpM (P : Program) (ops : Array Oper) (anc : Nat → Nat → Bool) (specs : Nat → Option MSp) (C : World → Prop) (Q : Act → World → Prop) : List Oper → Nat → List Fact → Act → Prop
  | [], _, l, a => ∀ w, C w → allF l w → Q a w
  | o :: rest, k, l, a =>
    if Region.wanted o (yielded ops a.tmps) then
      match specs k with
      | some sp => (∀ w, C w → knownF anc k l w → mUpon P sp w ((execOp a.eval o).run P w)) ∧ ∀ v, sp.p v → wpM P ops anc specs C Q rest (k + 1) ((k, sp.S v) :: l) (a.put o.dst v)
      | none => ∃ v, (∀ w, C w → plainUpon w v ((execOp a.eval o).run P w)) ∧ wpM P ops anc specs C Q rest (k + 1) l (a.put o.dst v)
    else wpM P ops anc specs C Q rest (k + 1) l (a.put o.dst undef)

/-- the Bool for the order of the text, up to operation n -/
def lexUp (md : Region.Mode) (ops : Array Oper) (B : Array Bool → Bool) : Nat → Nat → Array Bool → Bool
  | 0, _, listed => B listed
  | f + 1, k, listed => (Region.ready md ops listed).contains k && Region.free md ops listed k && lexUp md ops B f (k + 1) (listed.setIfInBounds k true)
theorem wpAnyM_lex {Inv : Array Bool → Prop} (hInv : ∀ listed i, Inv listed → i ∈ Region.ready md ops listed → i < n → Inv (listed.setIfInBounds i true))
    (hT : ∀ listed, Inv listed → ∀ i, i < n → listed.getD i true = false → ∀ j ∈ Region.ready md ops listed, j < n) (hBd : ∀ listed, B listed = true → ∀ j ∈ Region.ready md ops listed, n ≤ j)
    (hA : AncOk md ops anc) (hC : ∀ w w', C w → Below w.heap.size w w' → C w') (hst : ∀ i sp v, specs i = some sp → Stays (sp.S v)) (hs : Region.noSelect ops = true) :
    ∀ (r : List Oper) (k : Nat) (listed : Array Bool) (l : List Fact) (a : Act), (∀ j, j < r.length → r[j]? = ops[k + j]?) → k + r.length ≤ n → lexUp md ops B r.length k listed = true → Inv listed → Shut anc listed → (∀ f ∈ l, Stays f.2) → NE C l →
      wpM P ops anc specs C Q r k l a → wpAnyM P md ops anc specs C n B Q r.length listed l a
  | [], _, _, _, _, _, _, hB, _, _, _, _, h => ⟨by simpa [lexUp] using hB, h⟩
  | o :: r, k, listed, l, a, hr0, hkn, hB, inv, hsh, hl, hn, h => by
    have h0 : ops[k]? = some o := by simpa using (hr0 0 (by simp)).symm
    simp only [List.length_cons, lexUp, Bool.and_eq_true] at hB
    simp only [List.length_cons] at hkn
    have hin : k < n := by omega
    obtain ⟨⟨hr, hf⟩, hB'⟩ := hB
    have hrd : k ∈ Region.ready md ops listed := by simpa using hr
    have inv' := hInv _ _ inv hrd hin
    have hr1 : ∀ j, j < r.length → r[j]? = ops[k + 1 + j]? := fun j hj => by have := hr0 (j + 1) (by simp; omega); simpa [Nat.add_assoc, Nat.add_comm 1 j] using this
    have hsh' := hsh.set hA hrd
    by_cases hw : Region.wanted o (yielded ops a.tmps) = true
    · simp only [wpM, hw, if_true] at h
      cases hsk : specs k with
      | some sp =>
        simp only [hsk] at h
        refine wpAnyM_first hInv hT hBd hA hC hst h0 hin (fun v => hst k sp v hsk) (Region.noSelect_spec hs) r.length listed l a inv hsh (Region.free_spec h0 hf) hrd hl hn (.inl ⟨hw, hsk, h.1⟩) (fun v hp hnv => ?_)
        refine wpAnyM_lex hInv hT hBd hA hC hst hs r (k + 1) _ _ _ hr1 (by omega) hB' inv' hsh' (fun f hf => ?_) hnv (h.2 v hp)
        rcases List.mem_cons.1 hf with rfl | hf
        · exact hst k sp v hsk
        · exact hl f hf
      | none =>
        simp only [hsk] at h
        obtain ⟨v, h1, h2⟩ := h
        refine wpAnyM_first (sp := only v) hInv hT hBd hA hC hst h0 hin (fun _ _ _ _ _ => trivial) (Region.noSelect_spec hs) r.length listed l a inv hsh (Region.free_spec h0 hf) hrd hl hn (.inr (.inl ⟨hw, hsk, v, rfl, fun w hc _ => h1 w hc⟩)) (fun u hp hnv => ?_)
        subst hp
        exact wpAnyM_le _ _ _ _ _ (LeF.drop _ _) (wpAnyM_lex hInv hT hBd hA hC hst hs r (k + 1) _ _ _ hr1 (by omega) hB' inv' hsh' hl hn h2)
    · have hw' : Region.wanted o (yielded ops a.tmps) = false := by simpa using hw
      simp only [wpM, hw', Bool.false_eq_true, if_false] at h
      refine wpAnyM_first (sp := only undef) hInv hT hBd hA hC hst h0 hin (fun _ _ _ _ _ => trivial) (Region.noSelect_spec hs) r.length listed l a inv hsh (Region.free_spec h0 hf) hrd hl hn (.inr (.inr ⟨hw', rfl⟩)) (fun u hp hnv => ?_)
      subst hp
      exact wpAnyM_le _ _ _ _ _ (LeF.drop _ _) (wpAnyM_lex hInv hT hBd hA hC hst hs r (k + 1) _ _ _ hr1 (by omega) hB' inv' hsh' hl hn h)

/-- the same behind a wall: the goal's head must not unfold -/
structure WM (P : Program) (ops : Array Oper) (anc : Nat → Nat → Bool) (specs : Nat → Option MSp) (C : World → Prop) (Q : Act → World → Prop) (r : List Oper) (k : Nat) (l : List Fact) (a : Act) : Prop where
  out : wpM P ops anc specs C Q r k l a

/-! What waits for what: a row of masks. -/
def ancRow (ops : List Oper) : List Nat :=
  ops.foldl (fun acc o => acc ++ [o.after.foldl (fun m e => if Region.binds .any e then m ||| (1 <<< e.on) ||| (acc.getD e.on 0) else m) 0]) []
def ancBit (row : List Nat) (j b : Nat) : Bool := (row.getD j 0).testBit b
def ancB (ops : List Oper) (row : List Nat) : Bool :=
  (List.range ops.length).all fun j => (List.range ops.length).all fun b => !ancBit row j b || (match ops[j]? with
    | some oj => oj.after.any fun e => Region.binds .any e && (e.on == b || ancBit row e.on b)
    | none => true)
def shortB (n : Nat) (row : List Nat) : Bool := row.all (fun m => decide (m < 2 ^ n)) && decide (row.length ≤ n)
theorem ancOk_of {l : List Oper} {row : List Nat} (h1 : ancB l row = true) (h2 : shortB l.length row = true) : AncOk .any l.toArray (ancBit row) := by
  intro j oj b hj hb
  simp only [List.getElem?_toArray] at hj
  have hjl : j < l.length := by
    rcases Nat.lt_or_ge j l.length with h | h
    · exact h
    · rw [List.getElem?_eq_none h] at hj; cases hj
  have hbl : b < l.length := by
    rcases Nat.lt_or_ge b l.length with h | h
    · exact h
    · unfold ancBit at hb
      simp only [shortB, Bool.and_eq_true, List.all_eq_true, decide_eq_true_eq] at h2
      have hm : row.getD j 0 < 2 ^ l.length := by
        rw [List.getD_eq_getElem?_getD]
        cases hr : row[j]? with
        | none => simp; exact Nat.two_pow_pos _
        | some m => exact h2.1 m (List.mem_of_getElem? hr)
      have := Nat.testBit_lt_two_pow (Nat.lt_of_lt_of_le hm (Nat.pow_le_pow_right (by omega) h))
      rw [this] at hb; cases hb
  simp only [ancB, List.all_eq_true, List.mem_range] at h1
  have h3 := h1 j hjl b hbl
  rw [hb] at h3
  simp only [hj, Bool.not_true, Bool.false_or] at h3
  obtain ⟨e, he, hb2⟩ := Array.any_eq_true'.1 h3
  simp only [Bool.and_eq_true, Bool.or_eq_true, beq_iff_eq] at hb2
  exact ⟨e, he, hb2.1, hb2.2⟩

/-- specs from a list -/
def specOf : List (Nat × MSp) → Nat → Option MSp
  | [], _ => none
  | s :: l, k => if k == s.1 then some s.2 else specOf l k
theorem specOf_stays {l : List (Nat × MSp)} (h : ∀ s ∈ l, ∀ v, Stays (s.2.S v)) : ∀ i sp v, specOf l i = some sp → Stays (sp.S v) := by
  induction l with
  | nil => intro i sp v h'; simp [specOf] at h'
  | cons s l ih =>
    intro i sp v h'
    simp only [specOf] at h'
    split at h'
    · injection h' with h'; subst h'; exact h s (by simp) v
    · exact ih (fun t ht => h t (by simp [ht])) i sp v h'

/-- the class: w with some blocks laid behind it -/
def Later (w : World) : World → Prop := fun w' => ∃ p : Regrown, w' = grow (redrawn w p.d) p.os
theorem later_below {w w' : World} (h : Later w w') : Below w.heap.size w w' := below_of_class h
theorem later_up {w : World} : ∀ a b, Later w a → Below a.heap.size a b → Later w b := fun a b h hb => regrown_of_below ((later_below h).then_ hb (later_below h).size)

theorem lexUp_from : ∀ (f k : Nat) (listed : Array Bool), Region.lexFrom md ops f k listed = true → lexUp md ops (fun b => (Region.ready md ops b).isEmpty) f k listed = true
  | 0, _, _, h => h
  | f + 1, k, listed, h => by
    simp only [Region.lexFrom, lexUp, Bool.and_eq_true] at h ⊢
    exact ⟨h.1, lexUp_from f _ _ h.2⟩
theorem lexUp_head {g : Nat} : ∀ (f k : Nat) (listed : Array Bool), Region.lexHead md ops g f k listed = true → lexUp md ops (fun b => Region.seqB md ops g (k + f) b) f k listed = true
  | 0, _, _, h => h
  | f + 1, k, listed, h => by
    simp only [Region.lexHead, lexUp, Bool.and_eq_true] at h ⊢
    have := lexUp_head f (k + 1) _ h.2
    rw [show k + 1 + f = k + (f + 1) by omega] at this
    exact ⟨h.1, this⟩
theorem shut_none (m : Nat) : Shut anc (Array.replicate m false) := fun k hk => by rw [getD_replicate_false] at hk; cases hk
theorem wp_region_m {id : Nat} {Q : Exit → Act → World → Prop} {a : Act} {w : World} {l : List Oper} (sps : List (Nat × MSp)) (hm : P.follows .mixedOrders = true) (hB : Region.lexB .any l.toArray = true)
    (hA : ancB l (ancRow l) = true) (hA2 : shortB l.length (ancRow l) = true) (hst : ∀ s ∈ sps, ∀ v, Stays (s.2.S v))
    (h : (∀ (d : Nat) (os : Array Obj) (b o : Nat), b < w.heap.size → (grow (redrawn w d) os).cell? ⟨b, o, none⟩ = w.cell? ⟨b, o, none⟩) →
      WM P l.toArray (ancBit (ancRow l)) (specOf sps) (fun w' => ∃ p : Regrown, w' = grow (redrawn w p.d) p.os) (fun a w' => Q .normal a w') l 0 [] a) : (Code.region id l.toArray true).wp P Q a w := by
  have h := (h fun d os b o hb => (below_regrown w d os).cell (p := ⟨b, o, none⟩) hb).out
  simp only [Region.lexB, Bool.and_eq_true] at hB
  have hC0 : Later w { w with drawn := w.drawn + 1 } := ⟨⟨w.drawn + 1, #[]⟩, by rw [grow_empty]; rfl⟩
  refine wp_region_any hm ?_
  have h1 := wpAnyM_lex (md := .any) (n := l.length) (B := fun b => (Region.ready .any l.toArray b).isEmpty) (Inv := fun _ => True) (fun _ _ _ _ _ => trivial)
    (fun listed _ i _ _ j hj => by obtain ⟨_, o, ho, _⟩ := mem_ready.1 hj; simp only [List.getElem?_toArray] at ho; exact (List.getElem?_eq_some_iff.1 ho).1)
    (fun listed hb j hj => by simp only [List.isEmpty_iff] at hb; rw [hb] at hj; cases hj) (ancOk_of hA hA2) later_up (specOf_stays hst) hB.1 l 0 (Array.replicate l.toArray.size false) [] a (by simp) (by simp) (lexUp_from _ _ _ (by simpa using hB.2)) trivial (shut_none _) (by simp) ⟨_, hC0, trivial⟩ h
  have h2 := wpAny_of_M (Q' := Q) (g := 0) later_up (specOf_stays hst) (fun listed a w hb hq => ⟨by simpa using hb, hq⟩) _ _ [] _ _ (by simp) hC0 trivial h1
  simpa using h2
/-- .. whose last operations (from n on) stand in one order behind all others: they are walked as ever. -/
theorem wp_region_mt {id : Nat} {Q : Exit → Act → World → Prop} {a : Act} {w : World} {l : List Oper} (n : Nat) (sps : List (Nat × MSp)) (hm : P.follows .mixedOrders = true) (hB : Region.lexTailB .any l.toArray n = true)
    (hA : ancB l (ancRow l) = true) (hA2 : shortB l.length (ancRow l) = true) (hst : ∀ s ∈ sps, ∀ v, Stays (s.2.S v))
    (h : (∀ (d : Nat) (os : Array Obj) (b o : Nat), b < w.heap.size → (grow (redrawn w d) os).cell? ⟨b, o, none⟩ = w.cell? ⟨b, o, none⟩) →
      WM P l.toArray (ancBit (ancRow l)) (specOf sps) (fun w' => ∃ p : Regrown, w' = grow (redrawn w p.d) p.os) (fun a w' => wpList P l.toArray Q (l.drop n) a w') (l.take n) 0 [] a) : (Code.region id l.toArray true).wp P Q a w := by
  have h := (h fun d os b o hb => (below_regrown w d os).cell (p := ⟨b, o, none⟩) hb).out
  simp only [Region.lexTailB, Bool.and_eq_true, decide_eq_true_eq] at hB
  obtain ⟨⟨⟨⟨hsel, hn⟩, hs⟩, hc⟩, hlex⟩ := hB
  have hC0 : Later w { w with drawn := w.drawn + 1 } := ⟨⟨w.drawn + 1, #[]⟩, by rw [grow_empty]; rfl⟩
  have hn' : n < l.length := by simpa using hn
  have htl : (l.take n).length = n := by simp; omega
  have hdl : (l.drop n).length = l.toArray.size - n := by simp
  have inv0 : HeadInv .any l.toArray n (Array.replicate l.toArray.size false) :=
    ⟨by simp, fun j oj _ hl => (by rw [getD_replicate_false] at hl; cases hl), fun t _ ht => getD_in (by simpa using ht) (getD_replicate_false _ _)⟩
  refine wp_region_any hm ?_
  have hup := lexUp_head _ _ _ hlex
  rw [Nat.zero_add] at hup
  have h1 := wpAnyM_lex (md := .any) (n := n) (B := fun b => Region.seqB .any l.toArray (l.toArray.size - n) n b) (Inv := HeadInv .any l.toArray n) (fun _ _ inv hi hin => inv.set hi hin)
    (fun listed inv i hin hun j hj => by
      rcases Nat.lt_or_ge j n with h | h
      · exact h
      · exact absurd hj (tail_waits hs hc hn inv _ i rfl hin hun j h))
    (fun listed hb j hj => seqB_ready hb j hj) (ancOk_of hA hA2) later_up (specOf_stays hst) hsel (l.take n) 0 (Array.replicate l.toArray.size false) [] a (fun j hj => by
      have hj' : j < n := by rw [htl] at hj; exact hj
      simp [hj']) (by rw [htl]; omega) (by rw [htl]; exact hup) inv0 (shut_none _) (by simp) ⟨_, hC0, trivial⟩ h
  have h2 := wpAny_of_M (Q' := Q) (g := l.toArray.size - n) later_up (specOf_stays hst) (fun listed a w hb hq => by
    have := wpAny_of_seq (md := .any) (Q' := Q) (l.drop n) n listed a w (fun j => by simp [List.getElem?_drop]) (by rw [hdl]; exact hb) hq
    rwa [hdl] at this) _ _ [] _ _ (by simp) hC0 trivial h1
  rw [htl, show n + (l.toArray.size - n) = l.toArray.size by omega] at h2
  exact h2
theorem sts_nil : ∀ s ∈ ([] : List (Nat × MSp)), ∀ v, Stays (s.2.S v) := fun s h => by simp at h
theorem sts_cons {k : Nat} {sp : MSp} {l : List (Nat × MSp)} (h : ∀ v, Stays (sp.S v)) (hl : ∀ s ∈ l, ∀ v, Stays (s.2.S v)) : ∀ s ∈ ((k, sp) :: l), ∀ v, Stays (s.2.S v) := fun s hs => by
  rcases List.mem_cons.1 hs with rfl | hs
  · exact h
  · exact hl s hs
theorem sts_only (c : Value) : ∀ v, Stays ((only c).S v) := fun _ _ _ _ _ => trivial

/-! The steps. -/
theorem wpM_nil {k : Nat} {l : List Fact} {a : Act} (h : ∀ w, C w → allF l w → Q a w) : WM P ops anc specs C Q [] k l a := ⟨h⟩
theorem wpM_le : ∀ (r : List Oper) (k : Nat) (l l' : List Fact) (a : Act), LeF anc l l' → wpM P ops anc specs C Q r k l a → wpM P ops anc specs C Q r k l' a
  | [], _, _, _, _, hl, h => fun w hc ha => h w hc (hl.1 w ha)
  | o :: r, k, l, l', a, hl, h => by
    by_cases hw : Region.wanted o (yielded ops a.tmps) = true
    · simp only [wpM, hw, if_true] at h ⊢
      cases hs : specs k with
      | some sp =>
        simp only [hs] at h ⊢
        exact ⟨fun w hc hk => h.1 w hc (hl.2 _ w hk), fun v hp => wpM_le r (k + 1) _ _ _ (hl.cons _) (h.2 v hp)⟩
      | none =>
        simp only [hs] at h ⊢
        obtain ⟨v, h1, h2⟩ := h
        exact ⟨v, h1, wpM_le r (k + 1) _ _ _ hl h2⟩
    · have hw' : Region.wanted o (yielded ops a.tmps) = false := by simpa using hw
      simp only [wpM, hw', Bool.false_eq_true, if_false] at h ⊢
      exact wpM_le r (k + 1) _ _ _ hl h
theorem move_on {d : Option Tmp} {v : Value} {a : Act} {K : Act → Prop} (hne : ∃ w, C w) (h : Oper.quiet P ⟨d, .move (.const v), 0, "", #[], none⟩ a C K) : K (a.put d v) := by
  obtain ⟨u, h1, h2⟩ := h
  obtain ⟨w, hc⟩ := hne
  have h4 : w = w ∧ v = u := h1 w hc
  obtain ⟨_, rfl⟩ := h4
  exact h2
def valueOnly : Result Next → Prop
  | .ok (.value _) _ => True
  | .ok .skip _ => True
  | .halt _ _ => True
  | _ => False
def plainB (o : Oper) : Bool := match o.op with
  | .move _ | .assign _ | .nilCheck _ | .pick .. | .load .. | .build .. | .binOp .. | .unOp .. | .convert .. | .fieldAddr .. | .field .. | .indexAddr .. | .index .. | .extract .. | .slice .. => true
  | .call c => match c.callee with
    | .builtin .len | .builtin .cap | .builtin .min | .builtin .max => true
    | _ => false
  | _ => false
theorem bind_value (s : Sem Value) (w : World) : valueOnly ((do pure (.value (← s)) : Sem Next).run P w) := by
  simp only [Sem.run_bind]
  cases s.run P w <;> simp [valueOnly]
theorem plain_value {o : Oper} (h : plainB o = true) (ρ : Operand → Value) (w : World) : valueOnly ((execOp ρ o).run P w) := by
  obtain ⟨dst, op, type, pos, after, guard⟩ := o
  cases op <;> simp only [plainB, Bool.false_eq_true] at h <;> simp only [execOp]
  case call c =>
    split at h <;> simp only [Bool.false_eq_true] at h
    all_goals
      rename_i hb
      simp only [resolve, hb, Sem.run_bind, Sem.run_pure, Result.andThen_ok, invoke, builtin]
      generalize Sem.run P _ w = r
      cases r <;> simp [valueOnly]
  case nilCheck x =>
    split
    · simp [runtimePanic, valueOnly]
    · simp [runtimePanic, valueOnly]
    · simp [runtimePanic, valueOnly]
    · split
      · simp [runtimePanic, valueOnly]
      · simp only [Sem.run_bind]
        generalize Sem.run P program w = r1
        cases r1 with
        | halt h w1 => simp [valueOnly]
        | ok q w1 =>
          simp only [Result.andThen_ok, Sem.run_bind]
          generalize Sem.run P (nilAhead _ _ _ _) w1 = r2
          cases r2 with
          | halt h w2 => simp [valueOnly]
          | ok q2 w2 =>
            simp only [Result.andThen_ok]
            split <;> simp [valueOnly]
      · simp [valueOnly]
    · simp [valueOnly]
  all_goals first | exact bind_value _ _ | (simp [valueOnly]; done) | (simp only [Sem.run_bind]; generalize Sem.run P _ w = r; cases r <;> simp [valueOnly])

theorem wpM_plain {o : Oper} {rest : List Oper} {k : Nat} {l : List Fact} {a : Act} (hw : Region.wanted o (yielded ops a.tmps) = true) (hs : specs k = none) (hp : plainB o = true)
    (h : ∀ K : Act → Prop, (∀ b, wpM P ops anc specs C Q rest (k + 1) l b → K b) → o.quiet P a C K) : wpM P ops anc specs C Q (o :: rest) k l a := by
  simp only [wpM, hw, if_true, hs]
  obtain ⟨v, h1, h2⟩ := h _ (fun _ h => h)
  refine ⟨v, fun w hc => ?_, h2⟩
  have h3 := h1 w hc
  have h4 := plain_value (P := P) hp a.eval w
  unfold Oper.quietAt at h3
  generalize (execOp a.eval o).run P w = r at *
  cases r with
  | ok n w' => cases n <;> simp only [Oper.quietUpon, plainUpon, valueOnly] at h3 h4 ⊢ <;> exact h3
  | halt x w' => simp only [Oper.quietUpon] at h3

theorem wpM_spec {o : Oper} {rest : List Oper} {k : Nat} {l : List Fact} {a : Act} (d : Option Tmp) (sp : MSp) (hw : Region.wanted o (yielded ops a.tmps) = true) (hs : specs k = some sp) (hd : o.dst = d) (hne : ∃ w, C w)
    (hy : ∀ w, C w → knownF anc k l w → mUpon P sp w ((execOp a.eval o).run P w))
    (h : ∀ v, sp.p v → ∀ K : Act → Prop, (∀ b, WM P ops anc specs C Q rest (k + 1) ((k, sp.S v) :: l) b → K b) → Oper.quiet P ⟨d, .move (.const v), 0, "", #[], none⟩ a C K) : WM P ops anc specs C Q (o :: rest) k l a := by
  refine ⟨?_⟩
  simp only [wpM, hw, if_true, hs]
  subst hd
  exact ⟨hy, fun v hp => (move_on hne (h v hp _ (fun _ h => h))).out⟩
theorem wpM_only {o : Oper} {rest : List Oper} {k : Nat} {l : List Fact} {a : Act} (d : Option Tmp) (c : Value) (hw : Region.wanted o (yielded ops a.tmps) = true) (hs : specs k = some (only c)) (hd : o.dst = d) (hne : ∃ w, C w)
    (hy : ∀ w, C w → knownF anc k l w → mUpon P (only c) w ((execOp a.eval o).run P w))
    (h : ∀ K : Act → Prop, (∀ b, WM P ops anc specs C Q rest (k + 1) l b → K b) → Oper.quiet P ⟨d, .move (.const c), 0, "", #[], none⟩ a C K) : WM P ops anc specs C Q (o :: rest) k l a := by
  refine ⟨?_⟩
  simp only [wpM, hw, if_true, hs]
  subst hd
  refine ⟨hy, fun v hp => ?_⟩
  have hp' : v = c := hp
  subst hp'
  exact wpM_le _ _ _ _ _ (LeF.drop _ _) (move_on hne (h _ (fun _ h => h))).out
/-- one plain operation, or one that is passed over, by the words of the quiet walk -/
theorem wpM_via {o : Oper} {rest : List Oper} {k : Nat} {l : List Fact} {a : Act} (hb : ((plainB o && (specs k).isNone) || !(Region.wanted o (yielded ops a.tmps))) = true)
    (h : wpQuiet P ops C (WM P ops anc specs C Q rest (k + 1) l) [o] a) : WM P ops anc specs C Q (o :: rest) k l a := by
  refine ⟨?_⟩
  by_cases hw : Region.wanted o (yielded ops a.tmps) = true
  · simp only [hw, Bool.not_true, Bool.or_false, Bool.and_eq_true] at hb
    simp only [wpQuiet, hw, if_true] at h
    exact wpM_plain hw (by simpa using hb.2) hb.1 fun K hK => Oper.quiet_mono (fun b hb => hK b hb.out) h
  · have hw' : Region.wanted o (yielded ops a.tmps) = false := by simpa using hw
    simp only [wpQuiet, hw', Bool.false_eq_true, if_false] at h
    simp only [wpM, hw', Bool.false_eq_true, if_false]; exact h.out
theorem mUpon_enter {P : Program} {sp : MSp} {f : FuncId} {args : Array Value} {w : World} (h : Calls P f args w (mPost sp w)) : mUpon P sp w (.ok (.enter f args) w) := ⟨rfl, h⟩
theorem mUpon_value {P : Program} {sp : MSp} {v : Value} {w w' : World} (h : sp.p v ∧ sp.S v w' ∧ Below w.heap.size w w') : mUpon P sp w (.ok (.value v) w') := h
theorem mPost_only {c : Value} {w w' : World} {e : Ending} (h : e = .returned c ∧ Below w.heap.size w w') : mPost (only c) w e w' := ⟨c, h.1, rfl, trivial, h.2⟩
theorem _root_.Go.Calls.mo {P : Program} {f : FuncId} {args : Array Value} {w : World} {c : Value} (h : Calls P f args w fun e w' => e = .returned c ∧ Below w.heap.size w w') : Calls P f args w (mPost (only c) w) := h.mono fun _ _ h => mPost_only h
theorem _root_.Go.Calls.mos {P : Program} {f : FuncId} {args : Array Value} {w : World} {c : Value} (h : Calls P f args w fun e w' => e = .returned c ∧ w = w') : Calls P f args w (mPost (only c) w) := h.mono fun _ _ h => mPost_only ⟨h.1, by rw [← h.2]; exact Below.refl _ _⟩
theorem _root_.Go.Calls.mod {P : Program} {f : FuncId} {args : Array Value} {w : World} {c : Value} (h : Calls P f args w fun e w' => e = .returned c ∧ ∃ n, w.drewN n = w') : Calls P f args w (mPost (only c) w) := h.mono fun _ _ h => mPost_only ⟨h.1, qt_below h.2⟩
theorem later_some (w : World) : ∃ w', Later w w' := ⟨_, ⟨w.drawn, #[]⟩, rfl⟩
end
end Go.Proofs.YtfbllioegeadfaaDoor
