/-
  No cell of these rows narrows 'for every input' (looked for: loops, veiled, ifaces, maps, wideKeys, modest, calm, conditions, laid).
  DERIVED. THE GIVEN ROWS OF THIS SEAT. 3 by the template 'for every input the law returns true; each argument reads behind the call as it read before'; 0 by the template 'total and deterministic' (their statements: YtpjepaaaanajhaaTotals.lean).
  GIVEN WITH THE SEED: the statements are not yours to turn. If you find one false, say at which input.
  Laid BY PROGRAM, IN A SANDBOX (cutbox-rows.mjs): the forced cells as the released guide's own fill.sh prints them over the translation 0e281c9dc8623d2e… (all of the seat's roots in one cut). By AI agents, Wed Nov 11 2026. No macro, syntax, notation, axiom, sorry.
-/
import Derived.Test.YtpjepaaaanajhaaChecked
import GoSem.Claim
import GoSem.ClaimJoined
import GoSem.ClaimMapViews
import Derived.JoinedTies
import Derived.KernelRfl
namespace Go.Proofs.Ytpjepaaaanajhaa
/- THE CELL 'sum', in the pinned program and in every row, IS THE sha256 OF THE DUMP (.gsa) THAT YtpjepaaaanajhaaProg.lean LOADS. Nothing in Lean hashes anything: it is a label: what it is worth is what the hold of that sum in a sandbox is worth. -/
noncomputable def Try.pinned : Pinned := { name := "ytpjepaaaanajhaa", sum := "0e281c9dc8623d2e80f5622c9f6667e149cbfe33e9ca5447a1bd8d50c65acca2", checked := Try.checked }
namespace Rows
def none {H : Type} : Left H := { results := [], args := [] }

/-- 'callboylaw14.SourceTakes': WHATEVER THE INPUT: true; the input reads as it did. -/
def sourceTakesSpec : ChangeSpec := { name := "sourceTakes", fn := fun _ => fun
  | [d1, d2, d3] => { results := [.lit (.bool true)], args := [d1, d2, d3] }
  | _ => none }
def sourceTakesRow : OpenClaim := { program := "ytpjepaaaanajhaa", sum := "0e281c9dc8623d2e80f5622c9f6667e149cbfe33e9ca5447a1bd8d50c65acca2", func := "callboy/callboylaw14.SourceTakes", spec := "sourceTakes", inPlace := ["slices.overlaps[callboy/source.Entry]"], unfollowed := true, recurses := true, apart := false }
def SourceTakesSaid : Prop := sourceTakesRow.holds Try.pinned (OpenSpec.ofChange sourceTakesSpec)

/-- ITS FALSE NEIGHBOUR: 'it returns false'. Refute it at one input. -/
def sourceTakesWrong : ChangeSpec := { name := "sourceTakes", fn := fun _ => fun
  | [d1, d2, d3] => { results := [.lit (.bool false)], args := [d1, d2, d3] }
  | _ => none }
def SourceTakesWrongFalsely : Prop := sourceTakesRow.holds Try.pinned (OpenSpec.ofChange sourceTakesWrong)

/-- 'callboylaw14.SourceClean': WHATEVER THE INPUT: true; the input reads as it did. -/
def sourceCleanSpec : ChangeSpec := { name := "sourceClean", fn := fun _ => fun
  | [d1, d2, d3] => { results := [.lit (.bool true)], args := [d1, d2, d3] }
  | _ => none }
def sourceCleanRow : OpenClaim := { program := "ytpjepaaaanajhaa", sum := "0e281c9dc8623d2e80f5622c9f6667e149cbfe33e9ca5447a1bd8d50c65acca2", func := "callboy/callboylaw14.SourceClean", spec := "sourceClean", inPlace := ["slices.overlaps[callboy/source.Entry]"], unfollowed := true, recurses := true, apart := false }
def SourceCleanSaid : Prop := sourceCleanRow.holds Try.pinned (OpenSpec.ofChange sourceCleanSpec)

/-- ITS FALSE NEIGHBOUR: 'it returns false'. Refute it at one input. -/
def sourceCleanWrong : ChangeSpec := { name := "sourceClean", fn := fun _ => fun
  | [d1, d2, d3] => { results := [.lit (.bool false)], args := [d1, d2, d3] }
  | _ => none }
def SourceCleanWrongFalsely : Prop := sourceCleanRow.holds Try.pinned (OpenSpec.ofChange sourceCleanWrong)

/-- 'callboylaw14.SourceApart': WHATEVER THE INPUT: true; the input reads as it did. -/
def sourceApartSpec : ChangeSpec := { name := "sourceApart", fn := fun _ => fun
  | [d1, d2, d3] => { results := [.lit (.bool true)], args := [d1, d2, d3] }
  | _ => none }
def sourceApartRow : OpenClaim := { program := "ytpjepaaaanajhaa", sum := "0e281c9dc8623d2e80f5622c9f6667e149cbfe33e9ca5447a1bd8d50c65acca2", func := "callboy/callboylaw14.SourceApart", spec := "sourceApart", inPlace := ["slices.overlaps[callboy/source.Entry]"], unfollowed := true, recurses := true, apart := false }
def SourceApartSaid : Prop := sourceApartRow.holds Try.pinned (OpenSpec.ofChange sourceApartSpec)

/-- ITS FALSE NEIGHBOUR: 'it returns false'. Refute it at one input. -/
def sourceApartWrong : ChangeSpec := { name := "sourceApart", fn := fun _ => fun
  | [d1, d2, d3] => { results := [.lit (.bool false)], args := [d1, d2, d3] }
  | _ => none }
def SourceApartWrongFalsely : Prop := sourceApartRow.holds Try.pinned (OpenSpec.ofChange sourceApartWrong)

/- THE SECOND FORM. 'bulk': how many values and letters a reading holds, each counted each time it is reached (what is shared counts as often as it is met; a slice's spare places count too). A statement '..UptoSaid' is the law's where the arguments, and the package variables that the reading takes, are together of bulk at most 1048576: NARROWER than '..Said'. Prove '..Said' where nothing that the law and all that it calls make is longer than what came in: it says more and counts as full. Else prove '..UptoSaid'. A law counts once. -/
mutual
def uptoBulk {H : Type} : DataW H → Nat
  | .lit (.string bytes) => bytes.length + 1
  | .lit _ => 1
  | .nil => 1
  | .ptr d => uptoBulk d + 1
  | .slice elems spare => uptoBulkAll elems + uptoBulkAll spare + 1
  | .agg parts => uptoBulkAll parts + 1
  | .iface _ d => uptoBulk d + 1
  | .map entries => uptoBulkEntries entries + 1
  | .held _ => 1
def uptoBulkAll {H : Type} : List (DataW H) → Nat
  | [] => 0
  | d :: r => uptoBulk d + uptoBulkAll r
def uptoBulkEntries {H : Type} : List (Lit × DataW H) → Nat
  | [] => 0
  | x :: r => uptoBulkEntry x + uptoBulkEntries r
def uptoBulkEntry {H : Type} : Lit × DataW H → Nat
  | (.string bytes, d) => bytes.length + uptoBulk d + 1
  | (_, d) => uptoBulk d + 1
 end
def uptoSmall : (H : Type) → List (DataW H) → Bool := fun _ ds => decide (uptoBulkAll ds ≤ 1048576)
def OpenSpec.upto (s : _root_.Go.ChangeSpec) : _root_.Go.OpenSpec := { _root_.Go.OpenSpec.ofChange s with cond := some uptoSmall }

/-- 'callboylaw14.SourceTakes', WHERE WHAT IT READS IS OF BULK AT MOST 1048576: true; the input reads as it did. -/
def sourceTakesUptoRow : OpenClaim := { program := "ytpjepaaaanajhaa", sum := "0e281c9dc8623d2e80f5622c9f6667e149cbfe33e9ca5447a1bd8d50c65acca2", func := "callboy/callboylaw14.SourceTakes", spec := "sourceTakes", inPlace := ["slices.overlaps[callboy/source.Entry]"], unfollowed := true, recurses := true, apart := false, narrowed := true }
def SourceTakesUptoSaid : Prop := sourceTakesUptoRow.holds Try.pinned (OpenSpec.upto sourceTakesSpec)

/-- 'callboylaw14.SourceClean', WHERE WHAT IT READS IS OF BULK AT MOST 1048576: true; the input reads as it did. -/
def sourceCleanUptoRow : OpenClaim := { program := "ytpjepaaaanajhaa", sum := "0e281c9dc8623d2e80f5622c9f6667e149cbfe33e9ca5447a1bd8d50c65acca2", func := "callboy/callboylaw14.SourceClean", spec := "sourceClean", inPlace := ["slices.overlaps[callboy/source.Entry]"], unfollowed := true, recurses := true, apart := false, narrowed := true }
def SourceCleanUptoSaid : Prop := sourceCleanUptoRow.holds Try.pinned (OpenSpec.upto sourceCleanSpec)

/-- 'callboylaw14.SourceApart', WHERE WHAT IT READS IS OF BULK AT MOST 1048576: true; the input reads as it did. -/
def sourceApartUptoRow : OpenClaim := { program := "ytpjepaaaanajhaa", sum := "0e281c9dc8623d2e80f5622c9f6667e149cbfe33e9ca5447a1bd8d50c65acca2", func := "callboy/callboylaw14.SourceApart", spec := "sourceApart", inPlace := ["slices.overlaps[callboy/source.Entry]"], unfollowed := true, recurses := true, apart := false, narrowed := true }
def SourceApartUptoSaid : Prop := sourceApartUptoRow.holds Try.pinned (OpenSpec.upto sourceApartSpec)

end Rows
end Go.Proofs.Ytpjepaaaanajhaa
