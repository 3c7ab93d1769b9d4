/-
  No cell of these rows narrows 'for every input' (looked for: loops, veiled, ifaces, maps, wideKeys, modest, calm, conditions, laid).
  DERIVED. THE GIVEN ROWS OF THIS SEAT. 4 by the template 'for every input the law returns true; each argument reads behind the call as it read before'; 0 by the template 'total and deterministic' (their statements: YtolpiaehleefbaaTotals.lean).
  GIVEN WITH THE SEED: the statements are not yours to turn. If you find one false, say at which input.
  Laid BY PROGRAM, IN A SANDBOX (cutbox-rows.mjs): the forced cells as the released guide's own fill.sh prints them over the translation a980e8cf07859093… (all of the seat's roots in one cut). By AI agents, Wed Nov 11 2026. No macro, syntax, notation, axiom, sorry.
-/
import Derived.Test.YtolpiaehleefbaaChecked
import GoSem.Claim
import GoSem.ClaimJoined
import GoSem.ClaimMapViews
import Derived.JoinedTies
import Derived.KernelRfl
namespace Go.Proofs.Ytolpiaehleefbaa
/- THE CELL 'sum', in the pinned program and in every row, IS THE sha256 OF THE DUMP (.gsa) THAT YtolpiaehleefbaaProg.lean LOADS. Nothing in Lean hashes anything: it is a label: what it is worth is what the hold of that sum in a sandbox is worth. -/
noncomputable def Try.pinned : Pinned := { name := "ytolpiaehleefbaa", sum := "a980e8cf0785909328e46f7482bcdb7a687e37f897c4e333493c4e11dc649585", checked := Try.checked }
namespace Rows
def none {H : Type} : Left H := { results := [], args := [] }

/-- 'callboylaw18.AdmitAsks': WHATEVER THE INPUT: true; the input reads as it did. -/
def admitAsksSpec : ChangeSpec := { name := "admitAsks", fn := fun _ => fun
  | [d1, d2, d3] => { results := [.lit (.bool true)], args := [d1, d2, d3] }
  | _ => none }
def admitAsksRow : OpenClaim := { program := "ytolpiaehleefbaa", sum := "a980e8cf0785909328e46f7482bcdb7a687e37f897c4e333493c4e11dc649585", func := "callboy/callboylaw18.AdmitAsks", spec := "admitAsks", inPlace := ["slices.overlaps[callboy/source.Entry]"], unfollowed := true, recurses := true, apart := false }
def AdmitAsksSaid : Prop := admitAsksRow.holds Try.pinned (OpenSpec.ofChange admitAsksSpec)

/-- ITS FALSE NEIGHBOUR: 'it returns false'. Refute it at one input. -/
def admitAsksWrong : ChangeSpec := { name := "admitAsks", fn := fun _ => fun
  | [d1, d2, d3] => { results := [.lit (.bool false)], args := [d1, d2, d3] }
  | _ => none }
def AdmitAsksWrongFalsely : Prop := admitAsksRow.holds Try.pinned (OpenSpec.ofChange admitAsksWrong)

/-- 'callboylaw18.AdmitMost': WHATEVER THE INPUT: true; the input reads as it did. -/
def admitMostSpec : ChangeSpec := { name := "admitMost", fn := fun _ => fun
  | [d1, d2] => { results := [.lit (.bool true)], args := [d1, d2] }
  | _ => none }
def admitMostRow : OpenClaim := { program := "ytolpiaehleefbaa", sum := "a980e8cf0785909328e46f7482bcdb7a687e37f897c4e333493c4e11dc649585", func := "callboy/callboylaw18.AdmitMost", spec := "admitMost", inPlace := ["slices.overlaps[callboy/source.Entry]"], unfollowed := true, recurses := true, apart := false }
def AdmitMostSaid : Prop := admitMostRow.holds Try.pinned (OpenSpec.ofChange admitMostSpec)

/-- ITS FALSE NEIGHBOUR: 'it returns false'. Refute it at one input. -/
def admitMostWrong : ChangeSpec := { name := "admitMost", fn := fun _ => fun
  | [d1, d2] => { results := [.lit (.bool false)], args := [d1, d2] }
  | _ => none }
def AdmitMostWrongFalsely : Prop := admitMostRow.holds Try.pinned (OpenSpec.ofChange admitMostWrong)

/-- 'callboylaw18.AdmitShut': WHATEVER THE INPUT: true; the input reads as it did. -/
def admitShutSpec : ChangeSpec := { name := "admitShut", fn := fun _ => fun
  | [d1, d2, d3] => { results := [.lit (.bool true)], args := [d1, d2, d3] }
  | _ => none }
def admitShutRow : OpenClaim := { program := "ytolpiaehleefbaa", sum := "a980e8cf0785909328e46f7482bcdb7a687e37f897c4e333493c4e11dc649585", func := "callboy/callboylaw18.AdmitShut", spec := "admitShut", inPlace := ["slices.overlaps[callboy/source.Entry]"], unfollowed := true, recurses := true, apart := false }
def AdmitShutSaid : Prop := admitShutRow.holds Try.pinned (OpenSpec.ofChange admitShutSpec)

/-- ITS FALSE NEIGHBOUR: 'it returns false'. Refute it at one input. -/
def admitShutWrong : ChangeSpec := { name := "admitShut", fn := fun _ => fun
  | [d1, d2, d3] => { results := [.lit (.bool false)], args := [d1, d2, d3] }
  | _ => none }
def AdmitShutWrongFalsely : Prop := admitShutRow.holds Try.pinned (OpenSpec.ofChange admitShutWrong)

/-- 'callboylaw18.AdmitDraw': WHATEVER THE INPUT: true; the input reads as it did. -/
def admitDrawSpec : ChangeSpec := { name := "admitDraw", fn := fun _ => fun
  | [d1, d2, d3] => { results := [.lit (.bool true)], args := [d1, d2, d3] }
  | _ => none }
def admitDrawRow : OpenClaim := { program := "ytolpiaehleefbaa", sum := "a980e8cf0785909328e46f7482bcdb7a687e37f897c4e333493c4e11dc649585", func := "callboy/callboylaw18.AdmitDraw", spec := "admitDraw", inPlace := ["slices.overlaps[callboy/source.Entry]"], unfollowed := true, recurses := true, apart := false }
def AdmitDrawSaid : Prop := admitDrawRow.holds Try.pinned (OpenSpec.ofChange admitDrawSpec)

/-- ITS FALSE NEIGHBOUR: 'it returns false'. Refute it at one input. -/
def admitDrawWrong : ChangeSpec := { name := "admitDraw", fn := fun _ => fun
  | [d1, d2, d3] => { results := [.lit (.bool false)], args := [d1, d2, d3] }
  | _ => none }
def AdmitDrawWrongFalsely : Prop := admitDrawRow.holds Try.pinned (OpenSpec.ofChange admitDrawWrong)

/- THE SECOND FORM. 'bulk': how many values and letters a reading holds, each counted each time it is reached (what is shared counts as often as it is met; a slice's spare places count too). A statement '..UptoSaid' is the law's where the arguments, and the package variables that the reading takes, are together of bulk at most 1048576: NARROWER than '..Said'. Prove '..Said' where nothing that the law and all that it calls make is longer than what came in: it says more and counts as full. Else prove '..UptoSaid'. A law counts once. -/
mutual
def uptoBulk {H : Type} : DataW H → Nat
  | .lit (.string bytes) => bytes.length + 1
  | .lit _ => 1
  | .nil => 1
  | .ptr d => uptoBulk d + 1
  | .slice elems spare => uptoBulkAll elems + uptoBulkAll spare + 1
  | .agg parts => uptoBulkAll parts + 1
  | .iface _ d => uptoBulk d + 1
  | .map entries => uptoBulkEntries entries + 1
  | .held _ => 1
def uptoBulkAll {H : Type} : List (DataW H) → Nat
  | [] => 0
  | d :: r => uptoBulk d + uptoBulkAll r
def uptoBulkEntries {H : Type} : List (Lit × DataW H) → Nat
  | [] => 0
  | x :: r => uptoBulkEntry x + uptoBulkEntries r
def uptoBulkEntry {H : Type} : Lit × DataW H → Nat
  | (.string bytes, d) => bytes.length + uptoBulk d + 1
  | (_, d) => uptoBulk d + 1
 end
def uptoSmall : (H : Type) → List (DataW H) → Bool := fun _ ds => decide (uptoBulkAll ds ≤ 1048576)
def OpenSpec.upto (s : _root_.Go.ChangeSpec) : _root_.Go.OpenSpec := { _root_.Go.OpenSpec.ofChange s with cond := some uptoSmall }

/-- 'callboylaw18.AdmitAsks', WHERE WHAT IT READS IS OF BULK AT MOST 1048576: true; the input reads as it did. -/
def admitAsksUptoRow : OpenClaim := { program := "ytolpiaehleefbaa", sum := "a980e8cf0785909328e46f7482bcdb7a687e37f897c4e333493c4e11dc649585", func := "callboy/callboylaw18.AdmitAsks", spec := "admitAsks", inPlace := ["slices.overlaps[callboy/source.Entry]"], unfollowed := true, recurses := true, apart := false, narrowed := true }
def AdmitAsksUptoSaid : Prop := admitAsksUptoRow.holds Try.pinned (OpenSpec.upto admitAsksSpec)

/-- 'callboylaw18.AdmitMost', WHERE WHAT IT READS IS OF BULK AT MOST 1048576: true; the input reads as it did. -/
def admitMostUptoRow : OpenClaim := { program := "ytolpiaehleefbaa", sum := "a980e8cf0785909328e46f7482bcdb7a687e37f897c4e333493c4e11dc649585", func := "callboy/callboylaw18.AdmitMost", spec := "admitMost", inPlace := ["slices.overlaps[callboy/source.Entry]"], unfollowed := true, recurses := true, apart := false, narrowed := true }
def AdmitMostUptoSaid : Prop := admitMostUptoRow.holds Try.pinned (OpenSpec.upto admitMostSpec)

/-- 'callboylaw18.AdmitShut', WHERE WHAT IT READS IS OF BULK AT MOST 1048576: true; the input reads as it did. -/
def admitShutUptoRow : OpenClaim := { program := "ytolpiaehleefbaa", sum := "a980e8cf0785909328e46f7482bcdb7a687e37f897c4e333493c4e11dc649585", func := "callboy/callboylaw18.AdmitShut", spec := "admitShut", inPlace := ["slices.overlaps[callboy/source.Entry]"], unfollowed := true, recurses := true, apart := false, narrowed := true }
def AdmitShutUptoSaid : Prop := admitShutUptoRow.holds Try.pinned (OpenSpec.upto admitShutSpec)

/-- 'callboylaw18.AdmitDraw', WHERE WHAT IT READS IS OF BULK AT MOST 1048576: true; the input reads as it did. -/
def admitDrawUptoRow : OpenClaim := { program := "ytolpiaehleefbaa", sum := "a980e8cf0785909328e46f7482bcdb7a687e37f897c4e333493c4e11dc649585", func := "callboy/callboylaw18.AdmitDraw", spec := "admitDraw", inPlace := ["slices.overlaps[callboy/source.Entry]"], unfollowed := true, recurses := true, apart := false, narrowed := true }
def AdmitDrawUptoSaid : Prop := admitDrawUptoRow.holds Try.pinned (OpenSpec.upto admitDrawSpec)

end Rows
end Go.Proofs.Ytolpiaehleefbaa
