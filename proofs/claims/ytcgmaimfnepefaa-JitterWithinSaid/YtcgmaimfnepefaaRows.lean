/-
  No cell of these rows narrows 'for every input' (looked for: loops, veiled, ifaces, maps, wideKeys, modest, calm, conditions, laid).
  DERIVED. THE GIVEN ROWS OF THIS SEAT. 2 by the template 'for every input the law returns true; each argument reads behind the call as it read before'; 0 by the template 'total and deterministic' (their statements: YtcgmaimfnepefaaTotals.lean).
  GIVEN WITH THE SEED: the statements are not yours to turn. If you find one false, say at which input.
  Laid BY PROGRAM, IN A SANDBOX (cutbox-rows.mjs): the forced cells as the released guide's own fill.sh prints them over the translation 196871a93bfb5937… (all of the seat's roots in one cut). By AI agents, Wed Nov 11 2026. No macro, syntax, notation, axiom, sorry.
-/
import Derived.Test.YtcgmaimfnepefaaChecked
import GoSem.Claim
import GoSem.ClaimJoined
import GoSem.ClaimMapViews
import Derived.JoinedTies
import Derived.KernelRfl
namespace Go.Proofs.Ytcgmaimfnepefaa
/- THE CELL 'sum', in the pinned program and in every row, IS THE sha256 OF THE DUMP (.gsa) THAT YtcgmaimfnepefaaProg.lean LOADS. Nothing in Lean hashes anything: it is a label: what it is worth is what the hold of that sum in a sandbox is worth. -/
noncomputable def Try.pinned : Pinned := { name := "ytcgmaimfnepefaa", sum := "196871a93bfb593740ad0a0bdd0e6ae83e63c6b3c5cf1bfd296f4a8a97d0c0f5", checked := Try.checked }
namespace Rows
def none {H : Type} : Left H := { results := [], args := [] }

/-- 'callboylaw17.JitterSpreads': WHATEVER THE INPUT: true; the input reads as it did. -/
def jitterSpreadsSpec : ChangeSpec := { name := "jitterSpreads", fn := fun _ => fun
  | [d1, d2, d3] => { results := [.lit (.bool true)], args := [d1, d2, d3] }
  | _ => none }
def jitterSpreadsRow : OpenClaim := { program := "ytcgmaimfnepefaa", sum := "196871a93bfb593740ad0a0bdd0e6ae83e63c6b3c5cf1bfd296f4a8a97d0c0f5", func := "callboy/callboylaw17.JitterSpreads", spec := "jitterSpreads", unfollowed := true, recurses := true, apart := false }
def JitterSpreadsSaid : Prop := jitterSpreadsRow.holds Try.pinned (OpenSpec.ofChange jitterSpreadsSpec)

/-- ITS FALSE NEIGHBOUR: 'it returns false'. Refute it at one input. -/
def jitterSpreadsWrong : ChangeSpec := { name := "jitterSpreads", fn := fun _ => fun
  | [d1, d2, d3] => { results := [.lit (.bool false)], args := [d1, d2, d3] }
  | _ => none }
def JitterSpreadsWrongFalsely : Prop := jitterSpreadsRow.holds Try.pinned (OpenSpec.ofChange jitterSpreadsWrong)

/-- 'callboylaw17.JitterWithin': WHATEVER THE INPUT: true; the input reads as it did. -/
def jitterWithinSpec : ChangeSpec := { name := "jitterWithin", fn := fun _ => fun
  | [d1, d2, d3] => { results := [.lit (.bool true)], args := [d1, d2, d3] }
  | _ => none }
def jitterWithinRow : OpenClaim := { program := "ytcgmaimfnepefaa", sum := "196871a93bfb593740ad0a0bdd0e6ae83e63c6b3c5cf1bfd296f4a8a97d0c0f5", func := "callboy/callboylaw17.JitterWithin", spec := "jitterWithin", unfollowed := true, recurses := true, apart := false }
def JitterWithinSaid : Prop := jitterWithinRow.holds Try.pinned (OpenSpec.ofChange jitterWithinSpec)

/-- ITS FALSE NEIGHBOUR: 'it returns false'. Refute it at one input. -/
def jitterWithinWrong : ChangeSpec := { name := "jitterWithin", fn := fun _ => fun
  | [d1, d2, d3] => { results := [.lit (.bool false)], args := [d1, d2, d3] }
  | _ => none }
def JitterWithinWrongFalsely : Prop := jitterWithinRow.holds Try.pinned (OpenSpec.ofChange jitterWithinWrong)

/- THE SECOND FORM. 'bulk': how many values and letters a reading holds, each counted each time it is reached (what is shared counts as often as it is met; a slice's spare places count too). A statement '..UptoSaid' is the law's where the arguments, and the package variables that the reading takes, are together of bulk at most 1048576: NARROWER than '..Said'. Prove '..Said' where nothing that the law and all that it calls make is longer than what came in: it says more and counts as full. Else prove '..UptoSaid'. A law counts once. -/
mutual
def uptoBulk {H : Type} : DataW H → Nat
  | .lit (.string bytes) => bytes.length + 1
  | .lit _ => 1
  | .nil => 1
  | .ptr d => uptoBulk d + 1
  | .slice elems spare => uptoBulkAll elems + uptoBulkAll spare + 1
  | .agg parts => uptoBulkAll parts + 1
  | .iface _ d => uptoBulk d + 1
  | .map entries => uptoBulkEntries entries + 1
  | .held _ => 1
def uptoBulkAll {H : Type} : List (DataW H) → Nat
  | [] => 0
  | d :: r => uptoBulk d + uptoBulkAll r
def uptoBulkEntries {H : Type} : List (Lit × DataW H) → Nat
  | [] => 0
  | x :: r => uptoBulkEntry x + uptoBulkEntries r
def uptoBulkEntry {H : Type} : Lit × DataW H → Nat
  | (.string bytes, d) => bytes.length + uptoBulk d + 1
  | (_, d) => uptoBulk d + 1
 end
def uptoSmall : (H : Type) → List (DataW H) → Bool := fun _ ds => decide (uptoBulkAll ds ≤ 1048576)
def OpenSpec.upto (s : _root_.Go.ChangeSpec) : _root_.Go.OpenSpec := { _root_.Go.OpenSpec.ofChange s with cond := some uptoSmall }

/-- 'callboylaw17.JitterSpreads', WHERE WHAT IT READS IS OF BULK AT MOST 1048576: true; the input reads as it did. -/
def jitterSpreadsUptoRow : OpenClaim := { program := "ytcgmaimfnepefaa", sum := "196871a93bfb593740ad0a0bdd0e6ae83e63c6b3c5cf1bfd296f4a8a97d0c0f5", func := "callboy/callboylaw17.JitterSpreads", spec := "jitterSpreads", unfollowed := true, recurses := true, apart := false, narrowed := true }
def JitterSpreadsUptoSaid : Prop := jitterSpreadsUptoRow.holds Try.pinned (OpenSpec.upto jitterSpreadsSpec)

/-- 'callboylaw17.JitterWithin', WHERE WHAT IT READS IS OF BULK AT MOST 1048576: true; the input reads as it did. -/
def jitterWithinUptoRow : OpenClaim := { program := "ytcgmaimfnepefaa", sum := "196871a93bfb593740ad0a0bdd0e6ae83e63c6b3c5cf1bfd296f4a8a97d0c0f5", func := "callboy/callboylaw17.JitterWithin", spec := "jitterWithin", unfollowed := true, recurses := true, apart := false, narrowed := true }
def JitterWithinUptoSaid : Prop := jitterWithinUptoRow.holds Try.pinned (OpenSpec.upto jitterWithinSpec)

end Rows
end Go.Proofs.Ytcgmaimfnepefaa
