/-
  No cell of these rows narrows 'for every input' (looked for: loops, veiled, ifaces, maps, wideKeys, modest, calm, conditions, laid).
  DERIVED. THE GIVEN ROWS OF THIS SEAT. 4 by the template 'for every input the law returns true; each argument reads behind the call as it read before'; 0 by the template 'total and deterministic' (their statements: YthbflgaekoaigaaTotals.lean).
  GIVEN WITH THE SEED: the statements are not yours to turn. If you find one false, say at which input.
  Laid BY PROGRAM, IN A SANDBOX (cutbox-rows.mjs): the forced cells as the released guide's own fill.sh prints them over the translation aaf597872839dbfe… (all of the seat's roots in one cut). By AI agents, Wed Nov 11 2026. No macro, syntax, notation, axiom, sorry.
-/
import Derived.Test.YthbflgaekoaigaaChecked
import GoSem.Claim
import GoSem.ClaimJoined
import GoSem.ClaimMapViews
import Derived.JoinedTies
import Derived.KernelRfl
namespace Go.Proofs.Ythbflgaekoaigaa
/- THE CELL 'sum', in the pinned program and in every row, IS THE sha256 OF THE DUMP (.gsa) THAT YthbflgaekoaigaaProg.lean LOADS. Nothing in Lean hashes anything: it is a label: what it is worth is what the hold of that sum in a sandbox is worth. -/
noncomputable def Try.pinned : Pinned := { name := "ythbflgaekoaigaa", sum := "aaf597872839dbfe7dc5208315c10c85dacd74501859b07f5653fb2579d8078a", checked := Try.checked }
namespace Rows
def none {H : Type} : Left H := { results := [], args := [] }

/-- 'callboylaw13.BucketTakes': WHATEVER THE INPUT: true; the input reads as it did. -/
def bucketTakesSpec : ChangeSpec := { name := "bucketTakes", fn := fun _ => fun
  | [d1, d2, d3] => { results := [.lit (.bool true)], args := [d1, d2, d3] }
  | _ => none }
def bucketTakesRow : OpenClaim := { program := "ythbflgaekoaigaa", sum := "aaf597872839dbfe7dc5208315c10c85dacd74501859b07f5653fb2579d8078a", func := "callboy/callboylaw13.BucketTakes", spec := "bucketTakes", unfollowed := true, recurses := true, apart := false }
def BucketTakesSaid : Prop := bucketTakesRow.holds Try.pinned (OpenSpec.ofChange bucketTakesSpec)

/-- ITS FALSE NEIGHBOUR: 'it returns false'. Refute it at one input. -/
def bucketTakesWrong : ChangeSpec := { name := "bucketTakes", fn := fun _ => fun
  | [d1, d2, d3] => { results := [.lit (.bool false)], args := [d1, d2, d3] }
  | _ => none }
def BucketTakesWrongFalsely : Prop := bucketTakesRow.holds Try.pinned (OpenSpec.ofChange bucketTakesWrong)

/-- 'callboylaw13.BucketRuns': WHATEVER THE INPUT: true; the input reads as it did. -/
def bucketRunsSpec : ChangeSpec := { name := "bucketRuns", fn := fun _ => fun
  | [d1, d2, d3] => { results := [.lit (.bool true)], args := [d1, d2, d3] }
  | _ => none }
def bucketRunsRow : OpenClaim := { program := "ythbflgaekoaigaa", sum := "aaf597872839dbfe7dc5208315c10c85dacd74501859b07f5653fb2579d8078a", func := "callboy/callboylaw13.BucketRuns", spec := "bucketRuns", unfollowed := true, recurses := true, apart := false }
def BucketRunsSaid : Prop := bucketRunsRow.holds Try.pinned (OpenSpec.ofChange bucketRunsSpec)

/-- ITS FALSE NEIGHBOUR: 'it returns false'. Refute it at one input. -/
def bucketRunsWrong : ChangeSpec := { name := "bucketRuns", fn := fun _ => fun
  | [d1, d2, d3] => { results := [.lit (.bool false)], args := [d1, d2, d3] }
  | _ => none }
def BucketRunsWrongFalsely : Prop := bucketRunsRow.holds Try.pinned (OpenSpec.ofChange bucketRunsWrong)

/-- 'callboylaw13.BucketMost': WHATEVER THE INPUT: true; the input reads as it did. -/
def bucketMostSpec : ChangeSpec := { name := "bucketMost", fn := fun _ => fun
  | [d1, d2, d3] => { results := [.lit (.bool true)], args := [d1, d2, d3] }
  | _ => none }
def bucketMostRow : OpenClaim := { program := "ythbflgaekoaigaa", sum := "aaf597872839dbfe7dc5208315c10c85dacd74501859b07f5653fb2579d8078a", func := "callboy/callboylaw13.BucketMost", spec := "bucketMost", unfollowed := true, recurses := true, apart := false }
def BucketMostSaid : Prop := bucketMostRow.holds Try.pinned (OpenSpec.ofChange bucketMostSpec)

/-- ITS FALSE NEIGHBOUR: 'it returns false'. Refute it at one input. -/
def bucketMostWrong : ChangeSpec := { name := "bucketMost", fn := fun _ => fun
  | [d1, d2, d3] => { results := [.lit (.bool false)], args := [d1, d2, d3] }
  | _ => none }
def BucketMostWrongFalsely : Prop := bucketMostRow.holds Try.pinned (OpenSpec.ofChange bucketMostWrong)

/-- 'callboylaw13.BucketWaits': WHATEVER THE INPUT: true; the input reads as it did. -/
def bucketWaitsSpec : ChangeSpec := { name := "bucketWaits", fn := fun _ => fun
  | [d1, d2, d3] => { results := [.lit (.bool true)], args := [d1, d2, d3] }
  | _ => none }
def bucketWaitsRow : OpenClaim := { program := "ythbflgaekoaigaa", sum := "aaf597872839dbfe7dc5208315c10c85dacd74501859b07f5653fb2579d8078a", func := "callboy/callboylaw13.BucketWaits", spec := "bucketWaits", unfollowed := true, recurses := true, apart := false }
def BucketWaitsSaid : Prop := bucketWaitsRow.holds Try.pinned (OpenSpec.ofChange bucketWaitsSpec)

/-- ITS FALSE NEIGHBOUR: 'it returns false'. Refute it at one input. -/
def bucketWaitsWrong : ChangeSpec := { name := "bucketWaits", fn := fun _ => fun
  | [d1, d2, d3] => { results := [.lit (.bool false)], args := [d1, d2, d3] }
  | _ => none }
def BucketWaitsWrongFalsely : Prop := bucketWaitsRow.holds Try.pinned (OpenSpec.ofChange bucketWaitsWrong)

/- THE SECOND FORM. 'bulk': how many values and letters a reading holds, each counted each time it is reached (what is shared counts as often as it is met; a slice's spare places count too). A statement '..UptoSaid' is the law's where the arguments, and the package variables that the reading takes, are together of bulk at most 1048576: NARROWER than '..Said'. Prove '..Said' where nothing that the law and all that it calls make is longer than what came in: it says more and counts as full. Else prove '..UptoSaid'. A law counts once. -/
mutual
def uptoBulk {H : Type} : DataW H → Nat
  | .lit (.string bytes) => bytes.length + 1
  | .lit _ => 1
  | .nil => 1
  | .ptr d => uptoBulk d + 1
  | .slice elems spare => uptoBulkAll elems + uptoBulkAll spare + 1
  | .agg parts => uptoBulkAll parts + 1
  | .iface _ d => uptoBulk d + 1
  | .map entries => uptoBulkEntries entries + 1
  | .held _ => 1
def uptoBulkAll {H : Type} : List (DataW H) → Nat
  | [] => 0
  | d :: r => uptoBulk d + uptoBulkAll r
def uptoBulkEntries {H : Type} : List (Lit × DataW H) → Nat
  | [] => 0
  | x :: r => uptoBulkEntry x + uptoBulkEntries r
def uptoBulkEntry {H : Type} : Lit × DataW H → Nat
  | (.string bytes, d) => bytes.length + uptoBulk d + 1
  | (_, d) => uptoBulk d + 1
 end
def uptoSmall : (H : Type) → List (DataW H) → Bool := fun _ ds => decide (uptoBulkAll ds ≤ 1048576)
def OpenSpec.upto (s : _root_.Go.ChangeSpec) : _root_.Go.OpenSpec := { _root_.Go.OpenSpec.ofChange s with cond := some uptoSmall }

/-- 'callboylaw13.BucketTakes', WHERE WHAT IT READS IS OF BULK AT MOST 1048576: true; the input reads as it did. -/
def bucketTakesUptoRow : OpenClaim := { program := "ythbflgaekoaigaa", sum := "aaf597872839dbfe7dc5208315c10c85dacd74501859b07f5653fb2579d8078a", func := "callboy/callboylaw13.BucketTakes", spec := "bucketTakes", unfollowed := true, recurses := true, apart := false, narrowed := true }
def BucketTakesUptoSaid : Prop := bucketTakesUptoRow.holds Try.pinned (OpenSpec.upto bucketTakesSpec)

/-- 'callboylaw13.BucketRuns', WHERE WHAT IT READS IS OF BULK AT MOST 1048576: true; the input reads as it did. -/
def bucketRunsUptoRow : OpenClaim := { program := "ythbflgaekoaigaa", sum := "aaf597872839dbfe7dc5208315c10c85dacd74501859b07f5653fb2579d8078a", func := "callboy/callboylaw13.BucketRuns", spec := "bucketRuns", unfollowed := true, recurses := true, apart := false, narrowed := true }
def BucketRunsUptoSaid : Prop := bucketRunsUptoRow.holds Try.pinned (OpenSpec.upto bucketRunsSpec)

/-- 'callboylaw13.BucketMost', WHERE WHAT IT READS IS OF BULK AT MOST 1048576: true; the input reads as it did. -/
def bucketMostUptoRow : OpenClaim := { program := "ythbflgaekoaigaa", sum := "aaf597872839dbfe7dc5208315c10c85dacd74501859b07f5653fb2579d8078a", func := "callboy/callboylaw13.BucketMost", spec := "bucketMost", unfollowed := true, recurses := true, apart := false, narrowed := true }
def BucketMostUptoSaid : Prop := bucketMostUptoRow.holds Try.pinned (OpenSpec.upto bucketMostSpec)

/-- 'callboylaw13.BucketWaits', WHERE WHAT IT READS IS OF BULK AT MOST 1048576: true; the input reads as it did. -/
def bucketWaitsUptoRow : OpenClaim := { program := "ythbflgaekoaigaa", sum := "aaf597872839dbfe7dc5208315c10c85dacd74501859b07f5653fb2579d8078a", func := "callboy/callboylaw13.BucketWaits", spec := "bucketWaits", unfollowed := true, recurses := true, apart := false, narrowed := true }
def BucketWaitsUptoSaid : Prop := bucketWaitsUptoRow.holds Try.pinned (OpenSpec.upto bucketWaitsSpec)

end Rows
end Go.Proofs.Ythbflgaekoaigaa
