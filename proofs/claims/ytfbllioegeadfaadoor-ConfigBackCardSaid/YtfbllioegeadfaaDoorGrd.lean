/- Guarded loads and builds of whole structs; loads out of the middle of a block in a region that draws its order. No program in sight. -/
import Derived.Test.YtfbllioegeadfaaDoorRel2
import Derived.Test.YtfbllioegeadfaaDoorKeep
import Derived.Deep.MidRow
namespace Go.Proofs.YtfbllioegeadfaaDoor
open Go.RowKit Go.Sort
set_option linter.unusedSimpArgs false
set_option linter.unusedVariables false

section
variable {P : Program}
theorem wpList_loadG {ops : Array Oper} {rest : List Oper} {o : Oper} {a : Act} {w : World} {Q : Exit → Act → World → Prop} (ty : TypeId) (x : Operand) (ho : o.op = .load ty x)
    (g : Nat) (hx : a.eval x = .pointer (some ⟨g, 0, none⟩)) (t : TypeId) (cs : Array Value) (fr : Nat × Nat) (d : TypeDesc) (hg : w.heap[g]? = some (.cells cs t fr))
    (hu : P.underlying ty = some d) (hd : (match d with | .struct _ | .array _ _ => true | _ => false) = true) (hi : (P.info? ty).map (·.size) = some cs.size) (hw : Region.wanted o (yielded ops a.tmps) = true)
    (h : wpList P ops Q rest (a.put o.dst (.agg cs)) w) : wpList P ops Q (o :: rest) a w :=
  BigFrame.wpList_want hw fun _ hK => wp_load_row ty x ho g hx t cs fr d hg hu hd hi (hK _ _ h)
theorem wpList_buildG {ops : Array Oper} {rest : List Oper} {o : Oper} {a : Act} {w : World} {Q : Exit → Act → World → Prop} (t : TypeId) (parts : Array (Nat × Operand)) (ho : o.op = .build t parts)
    (cells : Array Value) (hf : P.built t (parts.map fun (i, x) => (i, a.eval x)).toList = some cells) (hw : Region.wanted o (yielded ops a.tmps) = true)
    (h : wpList P ops Q rest (a.put o.dst (.agg cells)) w) : wpList P ops Q (o :: rest) a w :=
  BigFrame.wpList_want hw fun K hK => wp_build t parts ho (by rw [hf]; rfl) (by rw [hf]; exact hK _ _ h)
theorem Bk.range {w : World} {g : Nat} {t : TypeId} {cs : List Value} (h : Bk w g t cs) (o : Nat) (sub : List Value) (hs : (cs.drop o).take sub.length = sub) : w.rangeAt g o sub := fun j v hv => by
  have hj : j < sub.length := (List.getElem?_eq_some_iff.1 hv).1
  rw [cell_of_row w g (o + j) cs.toArray t (0, 0) h]
  rw [← hs, List.getElem?_take, if_pos hj, List.getElem?_drop] at hv
  simpa using hv
theorem wpList_load_sub {ops : Array Oper} {rest : List Oper} {op : Oper} {a : Act} {w : World} {Q : Exit → Act → World → Prop} (ty : TypeId) (x : Operand) (ho : op.op = .load ty x)
    (b o : Nat) (hx : a.eval x = .pointer (some ⟨b, o, none⟩)) (t : TypeId) (cs : List Value) (hk : Bk w b t cs) (sub : List Value) (hs : (cs.drop o).take sub.length = sub) (d : TypeDesc)
    (hu : P.underlying ty = some d) (hd : d.isRow = true) (hi : (P.info? ty).map (·.size) = some sub.length) (hgd : Region.wanted op (yielded ops a.tmps) = true)
    (h : wpList P ops Q rest (a.put op.dst (.agg sub.toArray)) w) : wpList P ops Q (op :: rest) a w :=
  BigFrame.wpList_want hgd fun _ hK => wp_load_mid ty x ho b o hx sub d (hk.range o sub hs) hu hd hi (hK _ _ h)
end
section
variable {P : Program} {ops : Array Oper} {anc : Nat → Nat → Bool} {specs : Nat → Option MSp} {C : World → Prop} {Q : Act → World → Prop}
theorem wpM_load {o : Oper} {rest : List Oper} {k : Nat} {l : List Fact} {a : Act} (d : Option Tmp) (ty : TypeId) (x : Operand) (hd : o.dst = d) (ho : o.op = .load ty x)
    (b off : Nat) (hx : a.eval x = .pointer (some ⟨b, off, none⟩)) (sub : List Value) (hc : ∀ w, C w → w.rangeAt b off sub) (ds : TypeDesc) (hu : P.underlying ty = some ds) (hdr : ds.isRow = true) (hi : (P.info? ty).map (·.size) = some sub.length) (hne : ∃ w, C w) (hw : Region.wanted o (yielded ops a.tmps) = true) (hs : specs k = none)
    (h : ∀ K : Act → Prop, (∀ b, WM P ops anc specs C Q rest (k + 1) l b → K b) → Oper.quiet P ⟨d, .move (.const (.agg sub.toArray)), 0, "", #[], none⟩ a C K) : WM P ops anc specs C Q (o :: rest) k l a := by
  refine ⟨?_⟩
  simp only [wpM, hw, if_true, hs]
  subst hd
  refine ⟨.agg sub.toArray, fun w hcw => ?_, (move_on hne (h _ (fun _ h => h))).out⟩
  unfold execOp
  simp only [ho, hx, Instr.loadAt, Instr.sureAddr, Sem.run_bind, Sem.run_pure, Result.andThen_ok, run_loadVar_mid w b off ty sub ds (hc w hcw) hu hdr hi]
  exact ⟨rfl, rfl⟩
end
end Go.Proofs.YtfbllioegeadfaaDoor
