/- States of admit in a region that draws its order; lengths of what is left. -/
import Derived.Test.YtolpiaehleefbaaAdm
import Derived.Test.YtolpiaehleefbaaA0
import Derived.Test.YtolpiaehleefbaaA2
namespace Go.Proofs.Ytolpiaehleefbaa
open Go.RowKit Go.Sort
set_option linter.unusedSimpArgs false
set_option linter.unusedVariables false

def StAt (x : AS) : MSp := ⟨fun v => ∃ A d, v = x.V A d, fun v w => ∃ A d, v = x.V A d ∧ Rd w w.heap.size A (enR x.es)⟩
theorem sts_st (x : AS) : ∀ v, Stays ((StAt x).S v) := fun v w w' ⟨A, d, e, h⟩ hb => ⟨A, d, e, h.step hb⟩
theorem st_of {x : AS} {A : Option Addr} {d : Nat} {w : World} (h : (StAt x).S (x.V A d) w) : Rd w w.heap.size A (enR x.es) := by
  obtain ⟨B, c, e, h⟩ := h
  have : A = B := by
    injection e with e
    have e2 := congrArg (fun a : Array Value => a[2]?) e
    simp at e2
    exact e2.1
  subst this
  exact h
theorem _root_.Go.Calls.mst {P : Program} {f : FuncId} {args : Array Value} {w : World} {x : AS} (h : Calls P f args w fun e w' => ∃ A d, e = .returned (x.V A d) ∧ Rd w' w'.heap.size A (enR x.es) ∧ Below w.heap.size w w') : Calls P f args w (mPost (StAt x) w) :=
  h.mono fun _ _ ⟨A, d, e, r, b⟩ => ⟨_, e, ⟨A, d, rfl⟩, ⟨A, d, rfl, r⟩, b⟩
theorem Bk.apart {w : World} {g : Nat} {t t' : TypeId} {cs cs' : List Value} (h : Bk w g t cs) (h' : Bk w g t' cs') (hne : t ≠ t') : False := by
  have := h.symm.trans h'
  simp at this
  exact hne this.2
def StT (T : TypeId) (x : AS) : MSp := ⟨fun v => ∃ A d, v = x.V A d, fun v w => ∃ A d, v = x.V A d ∧ Rd w w.heap.size A (enR x.es) ∧ TyA w T A⟩
theorem sts_stT (T : TypeId) (x : AS) : ∀ v, Stays ((StT T x).S v) := fun v w w' ⟨A, d, e, h, t⟩ hb => ⟨A, d, e, h.step hb, t.step hb⟩
theorem stT_of {T : TypeId} {x : AS} {A : Option Addr} {d : Nat} {w : World} (h : (StT T x).S (x.V A d) w) : Rd w w.heap.size A (enR x.es) ∧ TyA w T A := by
  obtain ⟨B, c, e, h⟩ := h
  have : A = B := by
    injection e with e
    have e2 := congrArg (fun a : Array Value => a[2]?) e
    simp at e2
    exact e2.1
  subst this
  exact h
theorem _root_.Go.Calls.mstT {P : Program} {f : FuncId} {args : Array Value} {w : World} {T : TypeId} {x : AS} (h : Calls P f args w fun e w' => ∃ A d, e = .returned (x.V A d) ∧ Rd w' w'.heap.size A (enR x.es) ∧ Below w.heap.size w w' ∧ TyA w' T A) : Calls P f args w (mPost (StT T x) w) :=
  h.mono fun _ _ ⟨A, d, e, r, b, t⟩ => ⟨_, e, ⟨A, d, rfl⟩, ⟨A, d, rfl, r, t⟩, b⟩
theorem eClean_len18 (b r : Int) (l : List En) (now : Int) : (eClean b r l now).length ≤ l.length := by unfold eClean; split; exact Nat.le_refl _; exact List.length_filter_le _ _
theorem ePut_len18 (m : List En) (s : Int) (x : Int × Int) : (ePut m s x).length ≤ m.length + 1 := by
  unfold ePut; split
  · simp
  · simp only [List.length_append, List.length_cons, List.length_take, List.length_drop]; omega
theorem eTake_len18 (b r : Int) (l : List En) (s now : Int) : (eTake b r l s now).1.length ≤ l.length + 1 := by
  have h1 := eClean_len18 b r l now
  have h2 := ePut_len18 (eClean b r l now) s
  unfold eTake eTake2
  repeat' split
  all_goals first | (dsimp only; omega) | exact Nat.le_trans (h2 _) (by omega)
theorem aAsk_len (c : AC) (x : AS) (src now draw : Int) : (aAsk c x src now draw).1.es.length ≤ x.es.length + 1 := by
  unfold aAsk
  repeat' split
  · exact Nat.le_succ _
  · exact Nat.le_succ _
  · exact eTake_len18 _ _ _ _ _
  · exact Nat.le_trans (eClean_len18 _ _ _ _) (Nat.le_succ _)
theorem aNew_es (c : AC) : (aNew c).1.es = [] := by unfold aNew; split <;> rfl
theorem aTick_es (c : AC) (x : AS) (load now : Int) : (aTick c x load now).es = x.es := by unfold aTick; split <;> rfl
theorem aSame_self (x : AS) : aSame x x = true := by simp [aSame]
end Go.Proofs.Ytolpiaehleefbaa
