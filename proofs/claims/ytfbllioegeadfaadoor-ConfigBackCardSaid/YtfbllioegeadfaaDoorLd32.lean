/- What the rows of package config's laws take of the library's tables: a world in which they are laid; what a contract takes of them. -/
import Derived.Test.YtfbllioegeadfaaDoorCf2
import Derived.Deep.DeepHandedRow
import Derived.Deep.DeepWitnessRowRef
import Derived.ProofKit
import Derived.SizedLaws
import Derived.Lib.LaidIn
import Derived.Lib.LaidU8
import Derived.Shelf.Vars
namespace Go.Proofs.YtfbllioegeadfaaDoor
open Go.ChangeShapes Go.WideShapes Go.ChangeAt Go.RowKit Go.Lib
set_option linter.unusedSimpArgs false
set_option linter.unusedVariables false

def dc1 : DataW Unit → List Value
  | .lit (.int k z) => [.int k z]
  | _ => []
def dc2 : DataW Unit → List Value
  | .agg l => l.flatMap fun x => match x with
    | .agg m => m.flatMap dc1
    | y => dc1 y
  | _ => []
/-- a world in which the tables are laid -/
noncomputable def laidWorld (os : Os) : World :=
  let w0 := World.holding Tryd.prog os ⟨#[], #[], []⟩
  let put (h : Array Obj) (g : Nat) (cs : Array Value) : Array Obj := h.modify g fun
    | .cells _ t frozen => .cells cs t frozen
    | o => o
  let h1 := put w0.heap 0 (dc2 Rows.laid_internal_strconv_uint64pow10).toArray
  let h2 := put h1 2 (dc2 Rows.laid_unicode_utf8_first).toArray
  let h3 := put h2 3 (dc2 Rows.laid_unicode_utf8_acceptRanges).toArray
  let h4 := put h3 4 (dc2 Rows.laid_math_bits_deBruijn32tab).toArray
  let h5 := put h4 5 (dc2 Rows.laid_math_bits_deBruijn64tab).toArray
  { w0 with heap := h5 }
theorem laid_in (os : Os) (args : Array Value) : LaidIn Tryd.prog ((laidWorld os).forCall (fun _ _ => 0) ⟨#[], args, []⟩).memory Rows.configReadsRow.laid [4, 5, 0, 3, 2] :=
  LaidIn.of_run [4, 5, 0, 3, 2] 8 (by kernel_rfl) (by kernel_rfl) (by kernel_rfl) (by kernel_rfl)
theorem laid_met (os : Os) (args : Array Value) : laidMet Tryd.prog Rows.configReadsRow.laid ((laidWorld os).forCall (fun _ _ => 0) ⟨#[], args, []⟩).memory := (laid_in os args).met
theorem tabIs_of_reads {P : Program} {W : World} {name : String} {k : IntKind} {zs : List Int} {g : Nat} {t e : TypeId} {n : Nat}
    (hg : P.globalNamed name = some g) (hty : (P.globals[g]?).map (·.type) = some t) (ht : P.underlying t = some (.array n e)) (he : P.underlying e = some (.int k)) (hce : P.cellsOf e = 1) (hct : P.cellsOf t = n)
    (h : VarReads P W name (tabData k zs)) : TabIs P W name k zs := by
  obtain ⟨g', t', cs, fuel, p, hg', ht', hvar, hd⟩ := h
  obtain rfl := Option.some.inj (hg.symm.trans hg')
  obtain rfl := Option.some.inj (hty.symm.trans ht')
  unfold TabIs
  rw [hvar, ← cells_of_tab ht he hce hct hd]
theorem pow_of_laid {W : World} {l : List (String × DataW Unit)} (h : laidMet Tryd.prog l W) (hm : ("internal/strconv.uint64pow10", (Rows.laid_internal_strconv_uint64pow10 : DataW Unit)) ∈ l) : TabIs Tryd.prog W "internal/strconv.uint64pow10" .u64 pow10Tab := by
  have h1 := laidMet.reads h hm
  have e : (Rows.laid_internal_strconv_uint64pow10 : DataW Unit) = tabData .u64 pow10Tab := by kernel_rfl
  rw [e] at h1
  exact tabIs_of_reads pow_at (by kernel_rfl) Tryd.underlying131 Tryd.underlying117 (by kernel_rfl) (by kernel_rfl) h1
theorem gw_of {W : World} {l : List (String × DataW Unit)} (hsh : W.ShapedOpen Tryd.prog) (h : laidMet Tryd.prog l W) (hm : ("internal/strconv.uint64pow10", (Rows.laid_internal_strconv_uint64pow10 : DataW Unit)) ∈ l) : GW W := by
  obtain ⟨m, h1⟩ := cell_of_shapedOpen_int (P := Tryd.prog) (g := 1) (t := 3) (zero := #[.int .i64 0]) hsh (of_decide_eq_true (by kernel_rfl)) (by kernel_rfl) rfl (by kernel_rfl) (by kernel_rfl) Tryd.underlying3
  refine ⟨⟨m, h1⟩, pow_of_laid h hm, ?_⟩
  unfold World.cell? at h1
  cases hh : W.heap[1]? with
  | none => rw [hh] at h1; cases h1
  | some o => have := (Array.getElem?_eq_some_iff.1 hh).1; omega
end Go.Proofs.YtfbllioegeadfaaDoor
