/-
  No cell of these rows narrows 'for every input' (looked for: loops, veiled, ifaces, maps, wideKeys, modest, calm, conditions, laid).
  DERIVED. THE GIVEN ROWS OF THIS SEAT. 4 by the template 'for every input the law returns true; each argument reads behind the call as it read before'; 0 by the template 'total and deterministic' (their statements: YtbajakifkidccaaTotals.lean).
  GIVEN WITH THE SEED: the statements are not yours to turn. If you find one false, say at which input.
  Laid BY PROGRAM, IN A SANDBOX (cutbox-rows.mjs): the forced cells as the released guide's own fill.sh prints them over the translation 525bfc00bcff0443… (all of the seat's roots in one cut). By AI agents, Wed Nov 11 2026. No macro, syntax, notation, axiom, sorry.
-/
import Derived.Test.YtbajakifkidccaaChecked
import GoSem.Claim
import GoSem.ClaimJoined
import GoSem.ClaimMapViews
import Derived.JoinedTies
import Derived.KernelRfl
namespace Go.Proofs.Ytbajakifkidccaa
/- THE CELL 'sum', in the pinned program and in every row, IS THE sha256 OF THE DUMP (.gsa) THAT YtbajakifkidccaaProg.lean LOADS. Nothing in Lean hashes anything: it is a label: what it is worth is what the hold of that sum in a sandbox is worth. -/
noncomputable def Try.pinned : Pinned := { name := "ytbajakifkidccaa", sum := "525bfc00bcff044318b5d5ecd9e3441de511c23c798258a929e8a96977b2d8fa", checked := Try.checked }
namespace Rows
def none {H : Type} : Left H := { results := [], args := [] }

/-- 'callboylaw16.LevelSteps': WHATEVER THE INPUT: true; the input reads as it did. -/
def levelStepsSpec : ChangeSpec := { name := "levelSteps", fn := fun _ => fun
  | [d1, d2, d3] => { results := [.lit (.bool true)], args := [d1, d2, d3] }
  | _ => none }
def levelStepsRow : OpenClaim := { program := "ytbajakifkidccaa", sum := "525bfc00bcff044318b5d5ecd9e3441de511c23c798258a929e8a96977b2d8fa", func := "callboy/callboylaw16.LevelSteps", spec := "levelSteps", apart := false }
def LevelStepsSaid : Prop := levelStepsRow.holds Try.pinned (OpenSpec.ofChange levelStepsSpec)

/-- ITS FALSE NEIGHBOUR: 'it returns false'. Refute it at one input. -/
def levelStepsWrong : ChangeSpec := { name := "levelSteps", fn := fun _ => fun
  | [d1, d2, d3] => { results := [.lit (.bool false)], args := [d1, d2, d3] }
  | _ => none }
def LevelStepsWrongFalsely : Prop := levelStepsRow.holds Try.pinned (OpenSpec.ofChange levelStepsWrong)

/-- 'callboylaw16.LevelRuns': WHATEVER THE INPUT: true; the input reads as it did. -/
def levelRunsSpec : ChangeSpec := { name := "levelRuns", fn := fun _ => fun
  | [d1, d2, d3] => { results := [.lit (.bool true)], args := [d1, d2, d3] }
  | _ => none }
def levelRunsRow : OpenClaim := { program := "ytbajakifkidccaa", sum := "525bfc00bcff044318b5d5ecd9e3441de511c23c798258a929e8a96977b2d8fa", func := "callboy/callboylaw16.LevelRuns", spec := "levelRuns", apart := false }
def LevelRunsSaid : Prop := levelRunsRow.holds Try.pinned (OpenSpec.ofChange levelRunsSpec)

/-- ITS FALSE NEIGHBOUR: 'it returns false'. Refute it at one input. -/
def levelRunsWrong : ChangeSpec := { name := "levelRuns", fn := fun _ => fun
  | [d1, d2, d3] => { results := [.lit (.bool false)], args := [d1, d2, d3] }
  | _ => none }
def LevelRunsWrongFalsely : Prop := levelRunsRow.holds Try.pinned (OpenSpec.ofChange levelRunsWrong)

/-- 'callboylaw16.LevelStays': WHATEVER THE INPUT: true; the input reads as it did. -/
def levelStaysSpec : ChangeSpec := { name := "levelStays", fn := fun _ => fun
  | [d1, d2] => { results := [.lit (.bool true)], args := [d1, d2] }
  | _ => none }
def levelStaysRow : OpenClaim := { program := "ytbajakifkidccaa", sum := "525bfc00bcff044318b5d5ecd9e3441de511c23c798258a929e8a96977b2d8fa", func := "callboy/callboylaw16.LevelStays", spec := "levelStays", apart := false }
def LevelStaysSaid : Prop := levelStaysRow.holds Try.pinned (OpenSpec.ofChange levelStaysSpec)

/-- ITS FALSE NEIGHBOUR: 'it returns false'. Refute it at one input. -/
def levelStaysWrong : ChangeSpec := { name := "levelStays", fn := fun _ => fun
  | [d1, d2] => { results := [.lit (.bool false)], args := [d1, d2] }
  | _ => none }
def LevelStaysWrongFalsely : Prop := levelStaysRow.holds Try.pinned (OpenSpec.ofChange levelStaysWrong)

/-- 'callboylaw16.LevelCalm': WHATEVER THE INPUT: true; the input reads as it did. -/
def levelCalmSpec : ChangeSpec := { name := "levelCalm", fn := fun _ => fun
  | [d1, d2] => { results := [.lit (.bool true)], args := [d1, d2] }
  | _ => none }
def levelCalmRow : OpenClaim := { program := "ytbajakifkidccaa", sum := "525bfc00bcff044318b5d5ecd9e3441de511c23c798258a929e8a96977b2d8fa", func := "callboy/callboylaw16.LevelCalm", spec := "levelCalm", apart := false }
def LevelCalmSaid : Prop := levelCalmRow.holds Try.pinned (OpenSpec.ofChange levelCalmSpec)

/-- ITS FALSE NEIGHBOUR: 'it returns false'. Refute it at one input. -/
def levelCalmWrong : ChangeSpec := { name := "levelCalm", fn := fun _ => fun
  | [d1, d2] => { results := [.lit (.bool false)], args := [d1, d2] }
  | _ => none }
def LevelCalmWrongFalsely : Prop := levelCalmRow.holds Try.pinned (OpenSpec.ofChange levelCalmWrong)

/- THE SECOND FORM. 'bulk': how many values and letters a reading holds, each counted each time it is reached (what is shared counts as often as it is met; a slice's spare places count too). A statement '..UptoSaid' is the law's where the arguments, and the package variables that the reading takes, are together of bulk at most 1048576: NARROWER than '..Said'. Prove '..Said' where nothing that the law and all that it calls make is longer than what came in: it says more and counts as full. Else prove '..UptoSaid'. A law counts once. -/
mutual
def uptoBulk {H : Type} : DataW H → Nat
  | .lit (.string bytes) => bytes.length + 1
  | .lit _ => 1
  | .nil => 1
  | .ptr d => uptoBulk d + 1
  | .slice elems spare => uptoBulkAll elems + uptoBulkAll spare + 1
  | .agg parts => uptoBulkAll parts + 1
  | .iface _ d => uptoBulk d + 1
  | .map entries => uptoBulkEntries entries + 1
  | .held _ => 1
def uptoBulkAll {H : Type} : List (DataW H) → Nat
  | [] => 0
  | d :: r => uptoBulk d + uptoBulkAll r
def uptoBulkEntries {H : Type} : List (Lit × DataW H) → Nat
  | [] => 0
  | x :: r => uptoBulkEntry x + uptoBulkEntries r
def uptoBulkEntry {H : Type} : Lit × DataW H → Nat
  | (.string bytes, d) => bytes.length + uptoBulk d + 1
  | (_, d) => uptoBulk d + 1
 end
def uptoSmall : (H : Type) → List (DataW H) → Bool := fun _ ds => decide (uptoBulkAll ds ≤ 1048576)
def OpenSpec.upto (s : _root_.Go.ChangeSpec) : _root_.Go.OpenSpec := { _root_.Go.OpenSpec.ofChange s with cond := some uptoSmall }

/-- 'callboylaw16.LevelSteps', WHERE WHAT IT READS IS OF BULK AT MOST 1048576: true; the input reads as it did. -/
def levelStepsUptoRow : OpenClaim := { program := "ytbajakifkidccaa", sum := "525bfc00bcff044318b5d5ecd9e3441de511c23c798258a929e8a96977b2d8fa", func := "callboy/callboylaw16.LevelSteps", spec := "levelSteps", apart := false, narrowed := true }
def LevelStepsUptoSaid : Prop := levelStepsUptoRow.holds Try.pinned (OpenSpec.upto levelStepsSpec)

/-- 'callboylaw16.LevelRuns', WHERE WHAT IT READS IS OF BULK AT MOST 1048576: true; the input reads as it did. -/
def levelRunsUptoRow : OpenClaim := { program := "ytbajakifkidccaa", sum := "525bfc00bcff044318b5d5ecd9e3441de511c23c798258a929e8a96977b2d8fa", func := "callboy/callboylaw16.LevelRuns", spec := "levelRuns", apart := false, narrowed := true }
def LevelRunsUptoSaid : Prop := levelRunsUptoRow.holds Try.pinned (OpenSpec.upto levelRunsSpec)

/-- 'callboylaw16.LevelStays', WHERE WHAT IT READS IS OF BULK AT MOST 1048576: true; the input reads as it did. -/
def levelStaysUptoRow : OpenClaim := { program := "ytbajakifkidccaa", sum := "525bfc00bcff044318b5d5ecd9e3441de511c23c798258a929e8a96977b2d8fa", func := "callboy/callboylaw16.LevelStays", spec := "levelStays", apart := false, narrowed := true }
def LevelStaysUptoSaid : Prop := levelStaysUptoRow.holds Try.pinned (OpenSpec.upto levelStaysSpec)

/-- 'callboylaw16.LevelCalm', WHERE WHAT IT READS IS OF BULK AT MOST 1048576: true; the input reads as it did. -/
def levelCalmUptoRow : OpenClaim := { program := "ytbajakifkidccaa", sum := "525bfc00bcff044318b5d5ecd9e3441de511c23c798258a929e8a96977b2d8fa", func := "callboy/callboylaw16.LevelCalm", spec := "levelCalm", apart := false, narrowed := true }
def LevelCalmUptoSaid : Prop := levelCalmUptoRow.holds Try.pinned (OpenSpec.upto levelCalmSpec)

end Rows
end Go.Proofs.Ytbajakifkidccaa
