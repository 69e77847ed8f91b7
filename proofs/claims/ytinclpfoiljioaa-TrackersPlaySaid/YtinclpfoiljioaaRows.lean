/-
  No cell of these rows narrows 'for every input' (looked for: loops, veiled, ifaces, maps, wideKeys, modest, calm, conditions, laid).
  DERIVED. THE GIVEN ROWS OF THIS SEAT. 5 by the template 'for every input the law returns true; each argument reads behind the call as it read before'; 0 by the template 'total and deterministic' (their statements: YtinclpfoiljioaaTotals.lean).
  GIVEN WITH THE SEED: the statements are not yours to turn. If you find one false, say at which input.
  Laid BY PROGRAM, IN A SANDBOX (cutbox-rows.mjs): the forced cells as the released guide's own fill.sh prints them over the translation 1eded09b635d10e7… (all of the seat's roots in one cut). By AI agents, Wed Nov 11 2026. No macro, syntax, notation, axiom, sorry.
-/
import Derived.Test.YtinclpfoiljioaaChecked
import GoSem.Claim
import GoSem.ClaimJoined
import GoSem.ClaimMapViews
import Derived.JoinedTies
import Derived.KernelRfl
namespace Go.Proofs.Ytinclpfoiljioaa
/- THE CELL 'sum', in the pinned program and in every row, IS THE sha256 OF THE DUMP (.gsa) THAT YtinclpfoiljioaaProg.lean LOADS. Nothing in Lean hashes anything: it is a label: what it is worth is what the hold of that sum in a sandbox is worth. -/
noncomputable def Try.pinned : Pinned := { name := "ytinclpfoiljioaa", sum := "1eded09b635d10e708c241753792841981a3a421b1140465669ff1ad6b0263db", checked := Try.checked }
namespace Rows
def none {H : Type} : Left H := { results := [], args := [] }

/-- 'ferryhouselaw20.TrackersPlay': WHATEVER THE INPUT: true; the input reads as it did. -/
def trackersPlaySpec : ChangeSpec := { name := "trackersPlay", fn := fun _ => fun
  | [d1, d2, d3] => { results := [.lit (.bool true)], args := [d1, d2, d3] }
  | _ => none }
def trackersPlayRow : OpenClaim := { program := "ytinclpfoiljioaa", sum := "1eded09b635d10e708c241753792841981a3a421b1140465669ff1ad6b0263db", func := "ferryhouse/ferryhouselaw20.TrackersPlay", spec := "trackersPlay", inPlace := ["math/bits.Add64"], plainKeys := false, apart := false }
def TrackersPlaySaid : Prop := trackersPlayRow.holds Try.pinned (OpenSpec.ofChange trackersPlaySpec)

/-- ITS FALSE NEIGHBOUR: 'it returns false'. Refute it at one input. -/
def trackersPlayWrong : ChangeSpec := { name := "trackersPlay", fn := fun _ => fun
  | [d1, d2, d3] => { results := [.lit (.bool false)], args := [d1, d2, d3] }
  | _ => none }
def TrackersPlayWrongFalsely : Prop := trackersPlayRow.holds Try.pinned (OpenSpec.ofChange trackersPlayWrong)

/-- 'ferryhouselaw20.TrackersVoid': WHATEVER THE INPUT: true; the input reads as it did. -/
def trackersVoidSpec : ChangeSpec := { name := "trackersVoid", fn := fun _ => fun
  | [d1, d2] => { results := [.lit (.bool true)], args := [d1, d2] }
  | _ => none }
def trackersVoidRow : OpenClaim := { program := "ytinclpfoiljioaa", sum := "1eded09b635d10e708c241753792841981a3a421b1140465669ff1ad6b0263db", func := "ferryhouse/ferryhouselaw20.TrackersVoid", spec := "trackersVoid", inPlace := ["math/bits.Add64"], plainKeys := false, apart := false }
def TrackersVoidSaid : Prop := trackersVoidRow.holds Try.pinned (OpenSpec.ofChange trackersVoidSpec)

/-- ITS FALSE NEIGHBOUR: 'it returns false'. Refute it at one input. -/
def trackersVoidWrong : ChangeSpec := { name := "trackersVoid", fn := fun _ => fun
  | [d1, d2] => { results := [.lit (.bool false)], args := [d1, d2] }
  | _ => none }
def TrackersVoidWrongFalsely : Prop := trackersVoidRow.holds Try.pinned (OpenSpec.ofChange trackersVoidWrong)

/-- 'ferryhouselaw20.TrackersHold': WHATEVER THE INPUT: true; the input reads as it did. -/
def trackersHoldSpec : ChangeSpec := { name := "trackersHold", fn := fun _ => fun
  | [d1, d2] => { results := [.lit (.bool true)], args := [d1, d2] }
  | _ => none }
def trackersHoldRow : OpenClaim := { program := "ytinclpfoiljioaa", sum := "1eded09b635d10e708c241753792841981a3a421b1140465669ff1ad6b0263db", func := "ferryhouse/ferryhouselaw20.TrackersHold", spec := "trackersHold", inPlace := ["math/bits.Add64"], plainKeys := false, apart := false }
def TrackersHoldSaid : Prop := trackersHoldRow.holds Try.pinned (OpenSpec.ofChange trackersHoldSpec)

/-- ITS FALSE NEIGHBOUR: 'it returns false'. Refute it at one input. -/
def trackersHoldWrong : ChangeSpec := { name := "trackersHold", fn := fun _ => fun
  | [d1, d2] => { results := [.lit (.bool false)], args := [d1, d2] }
  | _ => none }
def TrackersHoldWrongFalsely : Prop := trackersHoldRow.holds Try.pinned (OpenSpec.ofChange trackersHoldWrong)

/-- 'ferryhouselaw20.TrackersOrder': WHATEVER THE INPUT: true; the input reads as it did. -/
def trackersOrderSpec : ChangeSpec := { name := "trackersOrder", fn := fun _ => fun
  | [d1, d2] => { results := [.lit (.bool true)], args := [d1, d2] }
  | _ => none }
def trackersOrderRow : OpenClaim := { program := "ytinclpfoiljioaa", sum := "1eded09b635d10e708c241753792841981a3a421b1140465669ff1ad6b0263db", func := "ferryhouse/ferryhouselaw20.TrackersOrder", spec := "trackersOrder", inPlace := ["math/bits.Add64"], plainKeys := false, apart := false }
def TrackersOrderSaid : Prop := trackersOrderRow.holds Try.pinned (OpenSpec.ofChange trackersOrderSpec)

/-- ITS FALSE NEIGHBOUR: 'it returns false'. Refute it at one input. -/
def trackersOrderWrong : ChangeSpec := { name := "trackersOrder", fn := fun _ => fun
  | [d1, d2] => { results := [.lit (.bool false)], args := [d1, d2] }
  | _ => none }
def TrackersOrderWrongFalsely : Prop := trackersOrderRow.holds Try.pinned (OpenSpec.ofChange trackersOrderWrong)

/-- 'ferryhouselaw20.TrackersTwice': WHATEVER THE INPUT: true; the input reads as it did. -/
def trackersTwiceSpec : ChangeSpec := { name := "trackersTwice", fn := fun _ => fun
  | [d1, d2, d3] => { results := [.lit (.bool true)], args := [d1, d2, d3] }
  | _ => none }
def trackersTwiceRow : OpenClaim := { program := "ytinclpfoiljioaa", sum := "1eded09b635d10e708c241753792841981a3a421b1140465669ff1ad6b0263db", func := "ferryhouse/ferryhouselaw20.TrackersTwice", spec := "trackersTwice", inPlace := ["math/bits.Add64"], plainKeys := false, apart := false }
def TrackersTwiceSaid : Prop := trackersTwiceRow.holds Try.pinned (OpenSpec.ofChange trackersTwiceSpec)

/-- ITS FALSE NEIGHBOUR: 'it returns false'. Refute it at one input. -/
def trackersTwiceWrong : ChangeSpec := { name := "trackersTwice", fn := fun _ => fun
  | [d1, d2, d3] => { results := [.lit (.bool false)], args := [d1, d2, d3] }
  | _ => none }
def TrackersTwiceWrongFalsely : Prop := trackersTwiceRow.holds Try.pinned (OpenSpec.ofChange trackersTwiceWrong)

/- THE SECOND FORM. 'bulk': how many values and letters a reading holds, each counted each time it is reached (what is shared counts as often as it is met; a slice's spare places count too). A statement '..UptoSaid' is the law's where the arguments, and the package variables that the reading takes, are together of bulk at most 1048576: NARROWER than '..Said'. Prove '..Said' where nothing that the law and all that it calls make is longer than what came in: it says more and counts as full. Else prove '..UptoSaid'. A law counts once. -/
mutual
def uptoBulk {H : Type} : DataW H → Nat
  | .lit (.string bytes) => bytes.length + 1
  | .lit _ => 1
  | .nil => 1
  | .ptr d => uptoBulk d + 1
  | .slice elems spare => uptoBulkAll elems + uptoBulkAll spare + 1
  | .agg parts => uptoBulkAll parts + 1
  | .iface _ d => uptoBulk d + 1
  | .map entries => uptoBulkEntries entries + 1
  | .held _ => 1
def uptoBulkAll {H : Type} : List (DataW H) → Nat
  | [] => 0
  | d :: r => uptoBulk d + uptoBulkAll r
def uptoBulkEntries {H : Type} : List (Lit × DataW H) → Nat
  | [] => 0
  | x :: r => uptoBulkEntry x + uptoBulkEntries r
def uptoBulkEntry {H : Type} : Lit × DataW H → Nat
  | (.string bytes, d) => bytes.length + uptoBulk d + 1
  | (_, d) => uptoBulk d + 1
 end
def uptoSmall : (H : Type) → List (DataW H) → Bool := fun _ ds => decide (uptoBulkAll ds ≤ 1048576)
def OpenSpec.upto (s : _root_.Go.ChangeSpec) : _root_.Go.OpenSpec := { _root_.Go.OpenSpec.ofChange s with cond := some uptoSmall }

/-- 'ferryhouselaw20.TrackersPlay', WHERE WHAT IT READS IS OF BULK AT MOST 1048576: true; the input reads as it did. -/
def trackersPlayUptoRow : OpenClaim := { program := "ytinclpfoiljioaa", sum := "1eded09b635d10e708c241753792841981a3a421b1140465669ff1ad6b0263db", func := "ferryhouse/ferryhouselaw20.TrackersPlay", spec := "trackersPlay", inPlace := ["math/bits.Add64"], plainKeys := false, apart := false, narrowed := true }
def TrackersPlayUptoSaid : Prop := trackersPlayUptoRow.holds Try.pinned (OpenSpec.upto trackersPlaySpec)

/-- 'ferryhouselaw20.TrackersVoid', WHERE WHAT IT READS IS OF BULK AT MOST 1048576: true; the input reads as it did. -/
def trackersVoidUptoRow : OpenClaim := { program := "ytinclpfoiljioaa", sum := "1eded09b635d10e708c241753792841981a3a421b1140465669ff1ad6b0263db", func := "ferryhouse/ferryhouselaw20.TrackersVoid", spec := "trackersVoid", inPlace := ["math/bits.Add64"], plainKeys := false, apart := false, narrowed := true }
def TrackersVoidUptoSaid : Prop := trackersVoidUptoRow.holds Try.pinned (OpenSpec.upto trackersVoidSpec)

/-- 'ferryhouselaw20.TrackersHold', WHERE WHAT IT READS IS OF BULK AT MOST 1048576: true; the input reads as it did. -/
def trackersHoldUptoRow : OpenClaim := { program := "ytinclpfoiljioaa", sum := "1eded09b635d10e708c241753792841981a3a421b1140465669ff1ad6b0263db", func := "ferryhouse/ferryhouselaw20.TrackersHold", spec := "trackersHold", inPlace := ["math/bits.Add64"], plainKeys := false, apart := false, narrowed := true }
def TrackersHoldUptoSaid : Prop := trackersHoldUptoRow.holds Try.pinned (OpenSpec.upto trackersHoldSpec)

/-- 'ferryhouselaw20.TrackersOrder', WHERE WHAT IT READS IS OF BULK AT MOST 1048576: true; the input reads as it did. -/
def trackersOrderUptoRow : OpenClaim := { program := "ytinclpfoiljioaa", sum := "1eded09b635d10e708c241753792841981a3a421b1140465669ff1ad6b0263db", func := "ferryhouse/ferryhouselaw20.TrackersOrder", spec := "trackersOrder", inPlace := ["math/bits.Add64"], plainKeys := false, apart := false, narrowed := true }
def TrackersOrderUptoSaid : Prop := trackersOrderUptoRow.holds Try.pinned (OpenSpec.upto trackersOrderSpec)

/-- 'ferryhouselaw20.TrackersTwice', WHERE WHAT IT READS IS OF BULK AT MOST 1048576: true; the input reads as it did. -/
def trackersTwiceUptoRow : OpenClaim := { program := "ytinclpfoiljioaa", sum := "1eded09b635d10e708c241753792841981a3a421b1140465669ff1ad6b0263db", func := "ferryhouse/ferryhouselaw20.TrackersTwice", spec := "trackersTwice", inPlace := ["math/bits.Add64"], plainKeys := false, apart := false, narrowed := true }
def TrackersTwiceUptoSaid : Prop := trackersTwiceUptoRow.holds Try.pinned (OpenSpec.upto trackersTwiceSpec)

end Rows
end Go.Proofs.Ytinclpfoiljioaa
