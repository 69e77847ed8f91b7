/-
  No cell of these rows narrows 'for every input' (looked for: loops, veiled, ifaces, maps, wideKeys, modest, calm, conditions, laid).
  DERIVED. THE GIVEN ROWS OF THIS SEAT. 4 by the template 'for every input the law returns true; each argument reads behind the call as it read before'; 0 by the template 'total and deterministic' (their statements: YtppgmnljciakhaaTotals.lean).
  GIVEN WITH THE SEED: the statements are not yours to turn. If you find one false, say at which input.
  Laid BY PROGRAM, IN A SANDBOX (cutbox-rows.mjs): the forced cells as the released guide's own fill.sh prints them over the translation d75b266c0cca2896… (all of the seat's roots in one cut). By AI agents, Wed Nov 11 2026. No macro, syntax, notation, axiom, sorry.
-/
import Derived.Test.YtppgmnljciakhaaChecked
import GoSem.Claim
import GoSem.ClaimJoined
import GoSem.ClaimMapViews
import Derived.JoinedTies
import Derived.KernelRfl
namespace Go.Proofs.Ytppgmnljciakhaa
/- THE CELL 'sum', in the pinned program and in every row, IS THE sha256 OF THE DUMP (.gsa) THAT YtppgmnljciakhaaProg.lean LOADS. Nothing in Lean hashes anything: it is a label: what it is worth is what the hold of that sum in a sandbox is worth. -/
noncomputable def Try.pinned : Pinned := { name := "ytppgmnljciakhaa", sum := "d75b266c0cca2896e1048b15313713c5c378e40b2cfad5f8593d7fa405f54c75", checked := Try.checked }
namespace Rows
def none {H : Type} : Left H := { results := [], args := [] }

/-- 'ferryhouselaw24.QueuesPlay': WHATEVER THE INPUT: true; the input reads as it did. -/
def queuesPlaySpec : ChangeSpec := { name := "queuesPlay", fn := fun _ => fun
  | [d1, d2] => { results := [.lit (.bool true)], args := [d1, d2] }
  | _ => none }
def queuesPlayRow : OpenClaim := { program := "ytppgmnljciakhaa", sum := "d75b266c0cca2896e1048b15313713c5c378e40b2cfad5f8593d7fa405f54c75", func := "ferryhouse/ferryhouselaw24.QueuesPlay", spec := "queuesPlay", apart := false }
def QueuesPlaySaid : Prop := queuesPlayRow.holds Try.pinned (OpenSpec.ofChange queuesPlaySpec)

/-- ITS FALSE NEIGHBOUR: 'it returns false'. Refute it at one input. -/
def queuesPlayWrong : ChangeSpec := { name := "queuesPlay", fn := fun _ => fun
  | [d1, d2] => { results := [.lit (.bool false)], args := [d1, d2] }
  | _ => none }
def QueuesPlayWrongFalsely : Prop := queuesPlayRow.holds Try.pinned (OpenSpec.ofChange queuesPlayWrong)

/-- 'ferryhouselaw24.QueuesVoid': WHATEVER THE INPUT: true; the input reads as it did. -/
def queuesVoidSpec : ChangeSpec := { name := "queuesVoid", fn := fun _ => fun
  | [d] => { results := [.lit (.bool true)], args := [d] }
  | _ => none }
def queuesVoidRow : OpenClaim := { program := "ytppgmnljciakhaa", sum := "d75b266c0cca2896e1048b15313713c5c378e40b2cfad5f8593d7fa405f54c75", func := "ferryhouse/ferryhouselaw24.QueuesVoid", spec := "queuesVoid", apart := false }
def QueuesVoidSaid : Prop := queuesVoidRow.holds Try.pinned (OpenSpec.ofChange queuesVoidSpec)

/-- ITS FALSE NEIGHBOUR: 'it returns false'. Refute it at one input. -/
def queuesVoidWrong : ChangeSpec := { name := "queuesVoid", fn := fun _ => fun
  | [d] => { results := [.lit (.bool false)], args := [d] }
  | _ => none }
def QueuesVoidWrongFalsely : Prop := queuesVoidRow.holds Try.pinned (OpenSpec.ofChange queuesVoidWrong)

/-- 'ferryhouselaw24.QueuesOrder': WHATEVER THE INPUT: true; the input reads as it did. -/
def queuesOrderSpec : ChangeSpec := { name := "queuesOrder", fn := fun _ => fun
  | [d] => { results := [.lit (.bool true)], args := [d] }
  | _ => none }
def queuesOrderRow : OpenClaim := { program := "ytppgmnljciakhaa", sum := "d75b266c0cca2896e1048b15313713c5c378e40b2cfad5f8593d7fa405f54c75", func := "ferryhouse/ferryhouselaw24.QueuesOrder", spec := "queuesOrder", apart := false }
def QueuesOrderSaid : Prop := queuesOrderRow.holds Try.pinned (OpenSpec.ofChange queuesOrderSpec)

/-- ITS FALSE NEIGHBOUR: 'it returns false'. Refute it at one input. -/
def queuesOrderWrong : ChangeSpec := { name := "queuesOrder", fn := fun _ => fun
  | [d] => { results := [.lit (.bool false)], args := [d] }
  | _ => none }
def QueuesOrderWrongFalsely : Prop := queuesOrderRow.holds Try.pinned (OpenSpec.ofChange queuesOrderWrong)

/-- 'ferryhouselaw24.QueuesMany': WHATEVER THE INPUT: true; the input reads as it did. -/
def queuesManySpec : ChangeSpec := { name := "queuesMany", fn := fun _ => fun
  | [d1, d2, d3] => { results := [.lit (.bool true)], args := [d1, d2, d3] }
  | _ => none }
def queuesManyRow : OpenClaim := { program := "ytppgmnljciakhaa", sum := "d75b266c0cca2896e1048b15313713c5c378e40b2cfad5f8593d7fa405f54c75", func := "ferryhouse/ferryhouselaw24.QueuesMany", spec := "queuesMany", apart := false }
def QueuesManySaid : Prop := queuesManyRow.holds Try.pinned (OpenSpec.ofChange queuesManySpec)

/-- ITS FALSE NEIGHBOUR: 'it returns false'. Refute it at one input. -/
def queuesManyWrong : ChangeSpec := { name := "queuesMany", fn := fun _ => fun
  | [d1, d2, d3] => { results := [.lit (.bool false)], args := [d1, d2, d3] }
  | _ => none }
def QueuesManyWrongFalsely : Prop := queuesManyRow.holds Try.pinned (OpenSpec.ofChange queuesManyWrong)

/- THE SECOND FORM. 'bulk': how many values and letters a reading holds, each counted each time it is reached (what is shared counts as often as it is met; a slice's spare places count too). A statement '..UptoSaid' is the law's where the arguments, and the package variables that the reading takes, are together of bulk at most 1048576: NARROWER than '..Said'. Prove '..Said' where nothing that the law and all that it calls make is longer than what came in: it says more and counts as full. Else prove '..UptoSaid'. A law counts once. -/
mutual
def uptoBulk {H : Type} : DataW H → Nat
  | .lit (.string bytes) => bytes.length + 1
  | .lit _ => 1
  | .nil => 1
  | .ptr d => uptoBulk d + 1
  | .slice elems spare => uptoBulkAll elems + uptoBulkAll spare + 1
  | .agg parts => uptoBulkAll parts + 1
  | .iface _ d => uptoBulk d + 1
  | .map entries => uptoBulkEntries entries + 1
  | .held _ => 1
def uptoBulkAll {H : Type} : List (DataW H) → Nat
  | [] => 0
  | d :: r => uptoBulk d + uptoBulkAll r
def uptoBulkEntries {H : Type} : List (Lit × DataW H) → Nat
  | [] => 0
  | x :: r => uptoBulkEntry x + uptoBulkEntries r
def uptoBulkEntry {H : Type} : Lit × DataW H → Nat
  | (.string bytes, d) => bytes.length + uptoBulk d + 1
  | (_, d) => uptoBulk d + 1
 end
def uptoSmall : (H : Type) → List (DataW H) → Bool := fun _ ds => decide (uptoBulkAll ds ≤ 1048576)
def OpenSpec.upto (s : _root_.Go.ChangeSpec) : _root_.Go.OpenSpec := { _root_.Go.OpenSpec.ofChange s with cond := some uptoSmall }

/-- 'ferryhouselaw24.QueuesPlay', WHERE WHAT IT READS IS OF BULK AT MOST 1048576: true; the input reads as it did. -/
def queuesPlayUptoRow : OpenClaim := { program := "ytppgmnljciakhaa", sum := "d75b266c0cca2896e1048b15313713c5c378e40b2cfad5f8593d7fa405f54c75", func := "ferryhouse/ferryhouselaw24.QueuesPlay", spec := "queuesPlay", apart := false, narrowed := true }
def QueuesPlayUptoSaid : Prop := queuesPlayUptoRow.holds Try.pinned (OpenSpec.upto queuesPlaySpec)

/-- 'ferryhouselaw24.QueuesVoid', WHERE WHAT IT READS IS OF BULK AT MOST 1048576: true; the input reads as it did. -/
def queuesVoidUptoRow : OpenClaim := { program := "ytppgmnljciakhaa", sum := "d75b266c0cca2896e1048b15313713c5c378e40b2cfad5f8593d7fa405f54c75", func := "ferryhouse/ferryhouselaw24.QueuesVoid", spec := "queuesVoid", apart := false, narrowed := true }
def QueuesVoidUptoSaid : Prop := queuesVoidUptoRow.holds Try.pinned (OpenSpec.upto queuesVoidSpec)

/-- 'ferryhouselaw24.QueuesOrder', WHERE WHAT IT READS IS OF BULK AT MOST 1048576: true; the input reads as it did. -/
def queuesOrderUptoRow : OpenClaim := { program := "ytppgmnljciakhaa", sum := "d75b266c0cca2896e1048b15313713c5c378e40b2cfad5f8593d7fa405f54c75", func := "ferryhouse/ferryhouselaw24.QueuesOrder", spec := "queuesOrder", apart := false, narrowed := true }
def QueuesOrderUptoSaid : Prop := queuesOrderUptoRow.holds Try.pinned (OpenSpec.upto queuesOrderSpec)

/-- 'ferryhouselaw24.QueuesMany', WHERE WHAT IT READS IS OF BULK AT MOST 1048576: true; the input reads as it did. -/
def queuesManyUptoRow : OpenClaim := { program := "ytppgmnljciakhaa", sum := "d75b266c0cca2896e1048b15313713c5c378e40b2cfad5f8593d7fa405f54c75", func := "ferryhouse/ferryhouselaw24.QueuesMany", spec := "queuesMany", apart := false, narrowed := true }
def QueuesManyUptoSaid : Prop := queuesManyUptoRow.holds Try.pinned (OpenSpec.upto queuesManySpec)

end Rows
end Go.Proofs.Ytppgmnljciakhaa
