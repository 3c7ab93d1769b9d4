/- A region that draws its order, with stores at its end, one of whose heads' operations ('x, v := f(..)': an extract) may come up behind the first store: it may be taken first. No program in sight. -/
import Derived.Test.YtbljiohdfjmhfaaRel3
namespace Go.Proofs.Ytbljiohdfjmhfaa
open Go.RowKit Go.Sort
set_option linter.unusedSimpArgs false
set_option linter.unusedVariables false

theorem getD_up {l : Array Bool} {j : Nat} (h : l.getD j false = true) : l.getD j true = true := by
  rcases Nat.lt_or_ge j l.size with hj | hj
  · simp [hj] at h ⊢; exact h
  · simp [Array.getElem?_eq_none hj] at h
theorem getD_dn {l : Array Bool} {j : Nat} (hj : j < l.size) (h : ¬ l.getD j false = true) : l.getD j true = false := by
  simp [hj] at h ⊢; exact h
def lateOp (o : Oper) (iL : Nat) : Oper := { o with after := o.after.push ⟨iL, .phase⟩ }
theorem lateOp_wp {P : Program} {o : Oper} {iL : Nat} {a : Act} {w : World} {K : Act → World → Prop} {Q : Exit → Act → World → Prop} (h : (lateOp o iL).wp P a w K Q) : o.wp P a w K Q := by
  cases o; exact h
theorem lateOp_asks {P : Program} {o : Oper} {iL : Nat} {a : Act} {w : World} (h : (lateOp o iL).asks P a w) : o.asks P a w := by
  cases o; exact h
theorem extract_pure {P : Program} {o : Oper} {t : Operand} {ix : Nat} (ho : o.op = .extract t ix) (ρ : Operand → Value) :
    (∃ v, ∀ w, (execOp ρ o).run P w = .ok (.value v) w ∧ ((execOp ρ o).runT P w #[]).2 = #[]) ∨ ∀ w, (∃ s w', (execOp ρ o).run P w = .halt (.stuck s) w') ∧ ((execOp ρ o).runT P w #[]).2 = #[] := by
  unfold execOp
  simp only [ho]
  unfold Instr.extract
  cases hρ : ρ t with
  | tuple vs =>
    cases hv : vs[ix]? with
    | some v => exact .inl ⟨v, fun w => by simp only [hv]; exact ⟨rfl, rfl⟩⟩
    | none => exact .inr fun w => by simp only [hv]; exact ⟨⟨_, _, rfl⟩, rfl⟩
  | _ => exact .inr fun w => ⟨⟨_, _, rfl⟩, rfl⟩

section
variable {P : Program} {ops ops' : Array Oper} {Q : Exit → Act → World → Prop} {n iL : Nat} {on oL : Oper}
theorem late_up (hn : ops[n]? = some on) (hn' : ops'[n]? = some (lateOp on iL)) (ho : ∀ j, j ≠ n → ops'[j]? = ops[j]?) {listed : Array Bool} {j : Nat} (h : j ∈ Region.ready .any ops' listed) : j ∈ Region.ready .any ops listed := by
  obtain ⟨h1, o, h2, h3⟩ := mem_ready.1 h
  refine mem_ready.2 ⟨h1, ?_⟩
  by_cases hj : j = n
  · subst hj
    rw [hn'] at h2
    cases h2
    exact ⟨on, hn, fun e he hb => h3 e (Array.mem_push.2 (.inl he)) hb⟩
  · exact ⟨o, (ho j hj) ▸ h2, h3⟩
theorem late_dn (hn : ops[n]? = some on) (hn' : ops'[n]? = some (lateOp on iL)) (ho : ∀ j, j ≠ n → ops'[j]? = ops[j]?) {listed : Array Bool} {j : Nat} (h : j ∈ Region.ready .any ops listed) (hj : j = n → listed.getD iL false = true) : j ∈ Region.ready .any ops' listed := by
  obtain ⟨h1, o, h2, h3⟩ := mem_ready.1 h
  refine mem_ready.2 ⟨h1, ?_⟩
  by_cases hjn : j = n
  · subst hjn
    refine ⟨_, hn', fun e he hb => ?_⟩
    rw [hn] at h2
    cases h2
    rcases Array.mem_push.1 he with he | rfl
    · exact h3 e he hb
    · exact hj rfl
  · exact ⟨o, (ho j hjn).trans h2, h3⟩
theorem late_yielded (hn : ops[n]? = some on) (hn' : ops'[n]? = some (lateOp on iL)) (ho : ∀ j, j ≠ n → ops'[j]? = ops[j]?) (tmps : Array Value) : yielded ops' tmps = yielded ops tmps := by
  funext j
  unfold yielded
  by_cases hj : j = n
  · subst hj; rw [hn, hn']; rfl
  · rw [ho j hj]
theorem late_wpOp (hn : ops[n]? = some on) (hn' : ops'[n]? = some (lateOp on iL)) (ho : ∀ j, j ≠ n → ops'[j]? = ops[j]?) {K : Act → World → Prop} {j : Nat} {a : Act} {w : World} (h : wpOp P ops' Q j K a w) : wpOp P ops Q j K a w := by
  unfold wpOp at *
  rw [late_yielded hn hn' ho] at h
  by_cases hj : j = n
  · subst hj
    rw [hn'] at h
    rw [hn]
    dsimp only at h ⊢
    have hw : Region.wanted (lateOp on iL) (yielded ops a.tmps) = Region.wanted on (yielded ops a.tmps) := by cases on; rfl
    rw [hw] at h
    split
    · rename_i hq; rw [if_pos hq] at h; exact h.imp lateOp_wp (fun h => ⟨lateOp_asks h.1, h.2⟩)
    · rename_i hq; rw [if_neg hq] at h; exact h
  · rw [ho j hj] at h; exact h
theorem wpAny_late (hn : ops[n]? = some on) (hn' : ops'[n]? = some (lateOp on iL)) (ho : ∀ j, j ≠ n → ops'[j]? = ops[j]?) (hL : ops[iL]? = some oL) (hLn : iL ≠ n) (hg : oL.guard = none) (t : Operand) (ix : Nat) (hop : oL.op = .extract t ix)
    (hedge : ∀ e ∈ oL.after, Region.binds .any e = true → ∃ e' ∈ on.after, Region.binds .any e' = true ∧ e'.on = e.on)
    (hfree : ∀ j oj, ops[j]? = some oj → j ≠ iL → (∀ e ∈ oj.after, Region.binds .any e = true → e.on ≠ iL) → (∃ e' ∈ on.after, Region.binds .any e' = true ∧ e'.on = j) ∨ oL.apart ops oj = true)
    (hsel : ∀ (j : Nat) (o : Oper) cs b, ops[j]? = some o → o.op ≠ .select cs b) (hQ : ∀ c d v a w, Q (.panic c) (Act.put a d v) w → Q (.panic c) a w) :
    ∀ (fuel : Nat) (listed : Array Bool) (a : Act) (w : World), listed.size = ops.size → wpAny P .any ops' Q fuel listed a w → wpAny P .any ops Q fuel listed a w := by
  have hiL : iL < ops.size := (Array.getElem?_eq_some_iff.1 hL).1
  have hrL : ∀ listed : Array Bool, listed.size = ops.size → n ∈ Region.ready .any ops listed → ¬ listed.getD iL false = true → iL ∈ Region.ready .any ops listed := fun listed hsz hr hu => by
    obtain ⟨_, o, h2, h3⟩ := mem_ready.1 hr
    rw [hn] at h2; cases h2
    exact mem_ready.2 ⟨getD_dn (by omega) hu, oL, hL, fun e he hb => by
      obtain ⟨e', he', hb', hon⟩ := hedge e he hb
      rw [← hon]; exact h3 e' he' hb'⟩
  intro fuel
  induction fuel with
  | zero =>
    intro listed a w hsz h
    refine ⟨?_, h.2⟩
    rcases hq : Region.ready .any ops listed with _ | ⟨j, r⟩
    · rfl
    · exfalso
      have hj : j ∈ Region.ready .any ops listed := by rw [hq]; simp
      by_cases hc : j = n ∧ ¬ listed.getD iL false = true
      · have h2 := late_dn hn hn' ho (hrL listed hsz (hc.1 ▸ hj) hc.2) (fun e => absurd e hLn)
        rw [h.1] at h2; cases h2
      · have h2 := late_dn hn hn' ho hj (fun e => by by_cases hu : listed.getD iL false = true; exact hu; exact absurd ⟨e, hu⟩ hc)
        rw [h.1] at h2; cases h2
  | succ fuel ih =>
    intro listed a w hsz h
    by_cases hc : n ∈ Region.ready .any ops listed ∧ ¬ listed.getD iL false = true
    · have hr := hrL listed hsz hc.1 hc.2
      have h2 := h.2 iL (late_dn hn hn' ho hr (fun e => absurd e hLn))
      have h3 := late_wpOp hn hn' ho h2
      unfold wpOp at h3
      simp only [hL] at h3
      have hw : Region.wanted oL (yielded ops a.tmps) = true := by unfold Region.wanted; rw [hg]
      rw [if_pos hw] at h3
      rcases extract_pure (P := P) hop a.eval with ⟨v, hv⟩ | hst
      · have h4 : wpAny P .any ops' Q fuel (listed.setIfInBounds iL true) (a.put oL.dst v) w := by
          rcases h3 with h3 | ⟨h3, _⟩
          · unfold Oper.wp at h3; rw [(hv w).1] at h3; exact h3
          · unfold Oper.asks at h3; rw [(hv w).2] at h3; exact absurd h3.1 (by simp)
        have h5 := ih _ _ _ (by simp [hsz]) h4
        obtain ⟨_, on', e1, e2⟩ := mem_ready.1 hc.1
        rw [hn] at e1; cases e1
        refine wpAny_first hL hsel (fun c a w => hQ c _ v a w) fuel listed a w (fun j oj hj hne hun hno => ?_) hr (.inl ⟨hw, fun w => (hv w).1⟩) h5
        rcases hfree j oj hj hne hno with ⟨e', he', hb', hon⟩ | h
        · have := getD_up (e2 e' he' hb')
          rw [hon, hun] at this; cases this
        · exact h
      · exfalso
        obtain ⟨⟨s, w', e1⟩, e2⟩ := hst w
        rcases h3 with h3 | ⟨h3, _⟩
        · unfold Oper.wp at h3; rw [e1] at h3; exact h3
        · unfold Oper.asks at h3; rw [e2] at h3; exact absurd h3.1 (by simp)
    · refine ⟨fun h0 => h.1 ?_, fun j hj => ?_⟩
      · rcases hq : Region.ready .any ops' listed with _ | ⟨j, r⟩
        · rfl
        · have : j ∈ Region.ready .any ops listed := late_up hn hn' ho (by rw [hq]; simp)
          rw [h0] at this; cases this
      · have h2 := h.2 j (late_dn hn hn' ho hj (fun e => by by_cases hu : listed.getD iL false = true; exact hu; exact absurd ⟨e ▸ hj, hu⟩ hc))
        exact wpOp_mono (fun a w h => ih _ _ _ (by simp [hsz]) h) (late_wpOp hn hn' ho h2)
end
/-- what wp_region_mt shows on the way: all orders -/
theorem wpAny_mt {P : Program} {Q : Exit → Act → World → Prop} {a : Act} {w : World} {l : List Oper} (n : Nat) (sps : List (Nat × MSp)) (hB : Region.lexTailB .any l.toArray n = true)
    (hA : ancB l (ancRow l) = true) (hA2 : shortB l.length (ancRow l) = true) (hst : ∀ s ∈ sps, ∀ v, Stays (s.2.S v))
    (h : wpM P l.toArray (ancBit (ancRow l)) (specOf sps) (fun w' => ∃ p : Regrown, w' = grow (redrawn w p.d) p.os) (fun a w' => wpList P l.toArray Q (l.drop n) a w') (l.take n) 0 [] a) :
    wpAny P .any l.toArray Q l.toArray.size (Array.replicate l.toArray.size false) a { w with drawn := w.drawn + 1 } := by
  simp only [Region.lexTailB, Bool.and_eq_true, decide_eq_true_eq] at hB
  obtain ⟨⟨⟨⟨hsel, hn⟩, hs⟩, hc⟩, hlex⟩ := hB
  have hC0 : Later w { w with drawn := w.drawn + 1 } := ⟨⟨w.drawn + 1, #[]⟩, by rw [grow_empty]; rfl⟩
  have hn' : n < l.length := by simpa using hn
  have htl : (l.take n).length = n := by simp; omega
  have hdl : (l.drop n).length = l.toArray.size - n := by simp
  have inv0 : HeadInv .any l.toArray n (Array.replicate l.toArray.size false) :=
    ⟨by simp, fun j oj _ hl => (by rw [getD_replicate_false] at hl; cases hl), fun t _ ht => getD_in (by simpa using ht) (getD_replicate_false _ _)⟩
  have hup := lexUp_head _ _ _ hlex
  rw [Nat.zero_add] at hup
  have h1 := wpAnyM_lex (md := .any) (n := n) (B := fun b => Region.seqB .any l.toArray (l.toArray.size - n) n b) (Inv := HeadInv .any l.toArray n) (fun _ _ inv hi hin => inv.set hi hin)
    (fun listed inv i hin hun j hj => by
      rcases Nat.lt_or_ge j n with h | h
      · exact h
      · exact absurd hj (tail_waits hs hc hn inv _ i rfl hin hun j h))
    (fun listed hb j hj => seqB_ready hb j hj) (ancOk_of hA hA2) later_up (specOf_stays hst) hsel (l.take n) 0 (Array.replicate l.toArray.size false) [] a (fun j hj => by
      have hj' : j < n := by rw [htl] at hj; exact hj
      simp [hj']) (by rw [htl]; omega) (by rw [htl]; exact hup) inv0 (shut_none _) (by simp) ⟨_, hC0, trivial⟩ h
  have h2 := wpAny_of_M (Q' := Q) (g := l.toArray.size - n) later_up (specOf_stays hst) (fun listed a w hb hq => by
    have := wpAny_of_seq (md := .any) (Q' := Q) (l.drop n) n listed a w (fun j => by simp [List.getElem?_drop]) (by rw [hdl]; exact hb) hq
    rwa [hdl] at this) _ _ [] _ _ (by simp) hC0 trivial h1
  rw [htl, show n + (l.toArray.size - n) = l.toArray.size by omega] at h2
  exact h2
def lateL (l : List Oper) (n iL : Nat) : List Oper := match l[n]? with
  | some o => l.set n (lateOp o iL)
  | none => l
def lateB (l : List Oper) (n iL : Nat) : Bool := match l[n]?, l[iL]? with
  | some on, some oL => (iL != n) && oL.guard.isNone && (match oL.op with | .extract _ _ => true | _ => false) && Region.noSelect l.toArray &&
      oL.after.all (fun e => !Region.binds .any e || on.after.any (fun e' => Region.binds .any e' && e'.on == e.on)) &&
      (List.range l.length).all (fun j => j == iL || match l[j]? with
        | none => true
        | some oj => oj.after.any (fun e => Region.binds .any e && e.on == iL) || on.after.any (fun e' => Region.binds .any e' && e'.on == j) || oL.apart l.toArray oj)
  | _, _ => false
theorem wp_region_ml {P : Program} {id : Nat} {Q : Exit → Act → World → Prop} {a : Act} {w : World} {l : List Oper} (n iL : Nat) (sps : List (Nat × MSp)) (hm : P.follows .mixedOrders = true) (hC : lateB l n iL = true) (hB : Region.lexTailB .any (lateL l n iL).toArray n = true)
    (hA : ancB (lateL l n iL) (ancRow (lateL l n iL)) = true) (hA2 : shortB (lateL l n iL).length (ancRow (lateL l n iL)) = true) (hst : ∀ s ∈ sps, ∀ v, Stays (s.2.S v)) (hQ : ∀ c d v a w, Q (.panic c) (Act.put a d v) w → Q (.panic c) a w)
    (h : (∀ (d : Nat) (os : Array Obj) (b o : Nat), b < w.heap.size → (grow (redrawn w d) os).cell? ⟨b, o, none⟩ = w.cell? ⟨b, o, none⟩) →
      WM P (lateL l n iL).toArray (ancBit (ancRow (lateL l n iL))) (specOf sps) (fun w' => ∃ p : Regrown, w' = grow (redrawn w p.d) p.os) (fun a w' => wpList P (lateL l n iL).toArray Q ((lateL l n iL).drop n) a w') ((lateL l n iL).take n) 0 [] a) : (Code.region id l.toArray true).wp P Q a w := by
  have h := (h fun d os b o hb => (below_regrown w d os).cell (p := ⟨b, o, none⟩) hb).out
  have h2 := wpAny_mt n sps hB hA hA2 hst h
  refine wp_region_any hm ?_
  unfold lateB at hC
  split at hC
  case h_2 => cases hC
  rename_i on oL h1 h3
  simp only [Bool.and_eq_true, bne_iff_ne, ne_eq, Option.isNone_iff_eq_none] at hC
  obtain ⟨⟨⟨⟨⟨hne, hg⟩, hop⟩, hsel⟩, hedge⟩, hfree⟩ := hC
  split at hop
  case h_2 => cases hop
  rename_i _ t ix heq
  have hnl : n < l.length := (List.getElem?_eq_some_iff.1 h1).1
  have hl : lateL l n iL = l.set n (lateOp on iL) := by unfold lateL; rw [h1]
  have hsz : (lateL l n iL).toArray.size = l.toArray.size := by rw [hl]; simp
  rw [hsz] at h2
  refine wpAny_late (n := n) (iL := iL) (on := on) (oL := oL) (ops' := (lateL l n iL).toArray) (by simpa using h1) (by rw [hl]; simp [hnl]) (fun j hj => by rw [hl]; simp [List.getElem?_set, Ne.symm hj]) (by simpa using h3) hne hg t ix heq
    (fun e he hb => ?_) (fun j oj hj hjn hno => ?_) (Region.noSelect_spec hsel) hQ _ _ _ _ (by simp) h2
  · have := Array.all_eq_true_iff_forall_mem.1 hedge e he
    rw [hb] at this
    simp only [Bool.not_true, Bool.false_or] at this
    obtain ⟨e', he', hq⟩ := Array.any_eq_true'.1 this
    simp only [Bool.and_eq_true, beq_iff_eq] at hq
    exact ⟨e', he', hq.1, hq.2⟩
  · have hj' : l[j]? = some oj := by simpa using hj
    have := List.all_eq_true.1 hfree j (List.mem_range.2 (List.getElem?_eq_some_iff.1 hj').1)
    simp only [hj', Bool.or_eq_true, beq_iff_eq, hjn, false_or] at this
    rcases this with (h | h) | h
    · obtain ⟨e, he, hq⟩ := Array.any_eq_true'.1 h
      simp only [Bool.and_eq_true, beq_iff_eq] at hq
      exact absurd hq.2 (hno e he hq.1)
    · obtain ⟨e', he', hq⟩ := Array.any_eq_true'.1 h
      simp only [Bool.and_eq_true, beq_iff_eq] at hq
      exact .inl ⟨e', he', hq.1, hq.2⟩
    · exact .inr h
end Go.Proofs.Ytbljiohdfjmhfaa
