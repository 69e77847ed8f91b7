/-
  No cell of these rows narrows 'for every input' (looked for: loops, veiled, ifaces, maps, wideKeys, modest, calm, conditions, laid).
  DERIVED. THE GIVEN ROWS OF THIS SEAT. 3 by the template 'for every input the law returns true; each argument reads behind the call as it read before'; 0 by the template 'total and deterministic' (their statements: YtkklpbjgncpenaaTotals.lean).
  GIVEN WITH THE SEED: the statements are not yours to turn. If you find one false, say at which input.
  Laid BY PROGRAM, IN A SANDBOX (cutbox-rows.mjs): the forced cells as the released guide's own fill.sh prints them over the translation bee46cadefd2fca5… (all of the seat's roots in one cut). By AI agents, Wed Nov 11 2026. No macro, syntax, notation, axiom, sorry.
-/
import Derived.Test.YtkklpbjgncpenaaChecked
import GoSem.Claim
import GoSem.ClaimJoined
import GoSem.ClaimMapViews
import Derived.JoinedTies
import Derived.KernelRfl
namespace Go.Proofs.Ytkklpbjgncpenaa
/- THE CELL 'sum', in the pinned program and in every row, IS THE sha256 OF THE DUMP (.gsa) THAT YtkklpbjgncpenaaProg.lean LOADS. Nothing in Lean hashes anything: it is a label: what it is worth is what the hold of that sum in a sandbox is worth. -/
noncomputable def Try.pinned : Pinned := { name := "ytkklpbjgncpenaa", sum := "bee46cadefd2fca5bc21804639931b5aafb6ec0d6dbbd73301bf959115b69cb4", checked := Try.checked }
namespace Rows
def none {H : Type} : Left H := { results := [], args := [] }

/-- 'ferryhouselaw25.SeensStay': WHATEVER THE INPUT: true; the input reads as it did. -/
def seensStaySpec : ChangeSpec := { name := "seensStay", fn := fun _ => fun
  | [d1, d2] => { results := [.lit (.bool true)], args := [d1, d2] }
  | _ => none }
def seensStayRow : OpenClaim := { program := "ytkklpbjgncpenaa", sum := "bee46cadefd2fca5bc21804639931b5aafb6ec0d6dbbd73301bf959115b69cb4", func := "ferryhouse/ferryhouselaw25.SeensStay", spec := "seensStay", plainKeys := false, apart := false }
def SeensStaySaid : Prop := seensStayRow.holds Try.pinned (OpenSpec.ofChange seensStaySpec)

/-- ITS FALSE NEIGHBOUR: 'it returns false'. Refute it at one input. -/
def seensStayWrong : ChangeSpec := { name := "seensStay", fn := fun _ => fun
  | [d1, d2] => { results := [.lit (.bool false)], args := [d1, d2] }
  | _ => none }
def SeensStayWrongFalsely : Prop := seensStayRow.holds Try.pinned (OpenSpec.ofChange seensStayWrong)

/-- 'ferryhouselaw25.SeensPlay': WHATEVER THE INPUT: true; the input reads as it did. -/
def seensPlaySpec : ChangeSpec := { name := "seensPlay", fn := fun _ => fun
  | [d] => { results := [.lit (.bool true)], args := [d] }
  | _ => none }
def seensPlayRow : OpenClaim := { program := "ytkklpbjgncpenaa", sum := "bee46cadefd2fca5bc21804639931b5aafb6ec0d6dbbd73301bf959115b69cb4", func := "ferryhouse/ferryhouselaw25.SeensPlay", spec := "seensPlay", inPlace := ["maps.clone"], plainKeys := false, apart := false }
def SeensPlaySaid : Prop := seensPlayRow.holds Try.pinned (OpenSpec.ofChange seensPlaySpec)

/-- ITS FALSE NEIGHBOUR: 'it returns false'. Refute it at one input. -/
def seensPlayWrong : ChangeSpec := { name := "seensPlay", fn := fun _ => fun
  | [d] => { results := [.lit (.bool false)], args := [d] }
  | _ => none }
def SeensPlayWrongFalsely : Prop := seensPlayRow.holds Try.pinned (OpenSpec.ofChange seensPlayWrong)

/-- 'ferryhouselaw25.SeensVoid': WHATEVER THE INPUT: true; the input reads as it did. -/
def seensVoidSpec : ChangeSpec := { name := "seensVoid", fn := fun _ => fun
  | [d1, d2] => { results := [.lit (.bool true)], args := [d1, d2] }
  | _ => none }
def seensVoidRow : OpenClaim := { program := "ytkklpbjgncpenaa", sum := "bee46cadefd2fca5bc21804639931b5aafb6ec0d6dbbd73301bf959115b69cb4", func := "ferryhouse/ferryhouselaw25.SeensVoid", spec := "seensVoid", inPlace := ["maps.clone"], plainKeys := false, apart := false }
def SeensVoidSaid : Prop := seensVoidRow.holds Try.pinned (OpenSpec.ofChange seensVoidSpec)

/-- ITS FALSE NEIGHBOUR: 'it returns false'. Refute it at one input. -/
def seensVoidWrong : ChangeSpec := { name := "seensVoid", fn := fun _ => fun
  | [d1, d2] => { results := [.lit (.bool false)], args := [d1, d2] }
  | _ => none }
def SeensVoidWrongFalsely : Prop := seensVoidRow.holds Try.pinned (OpenSpec.ofChange seensVoidWrong)

/- THE SECOND FORM. 'bulk': how many values and letters a reading holds, each counted each time it is reached (what is shared counts as often as it is met; a slice's spare places count too). A statement '..UptoSaid' is the law's where the arguments, and the package variables that the reading takes, are together of bulk at most 1048576: NARROWER than '..Said'. Prove '..Said' where nothing that the law and all that it calls make is longer than what came in: it says more and counts as full. Else prove '..UptoSaid'. A law counts once. -/
mutual
def uptoBulk {H : Type} : DataW H → Nat
  | .lit (.string bytes) => bytes.length + 1
  | .lit _ => 1
  | .nil => 1
  | .ptr d => uptoBulk d + 1
  | .slice elems spare => uptoBulkAll elems + uptoBulkAll spare + 1
  | .agg parts => uptoBulkAll parts + 1
  | .iface _ d => uptoBulk d + 1
  | .map entries => uptoBulkEntries entries + 1
  | .held _ => 1
def uptoBulkAll {H : Type} : List (DataW H) → Nat
  | [] => 0
  | d :: r => uptoBulk d + uptoBulkAll r
def uptoBulkEntries {H : Type} : List (Lit × DataW H) → Nat
  | [] => 0
  | x :: r => uptoBulkEntry x + uptoBulkEntries r
def uptoBulkEntry {H : Type} : Lit × DataW H → Nat
  | (.string bytes, d) => bytes.length + uptoBulk d + 1
  | (_, d) => uptoBulk d + 1
 end
def uptoSmall : (H : Type) → List (DataW H) → Bool := fun _ ds => decide (uptoBulkAll ds ≤ 1048576)
def OpenSpec.upto (s : _root_.Go.ChangeSpec) : _root_.Go.OpenSpec := { _root_.Go.OpenSpec.ofChange s with cond := some uptoSmall }

/-- 'ferryhouselaw25.SeensStay', WHERE WHAT IT READS IS OF BULK AT MOST 1048576: true; the input reads as it did. -/
def seensStayUptoRow : OpenClaim := { program := "ytkklpbjgncpenaa", sum := "bee46cadefd2fca5bc21804639931b5aafb6ec0d6dbbd73301bf959115b69cb4", func := "ferryhouse/ferryhouselaw25.SeensStay", spec := "seensStay", plainKeys := false, apart := false, narrowed := true }
def SeensStayUptoSaid : Prop := seensStayUptoRow.holds Try.pinned (OpenSpec.upto seensStaySpec)

/-- 'ferryhouselaw25.SeensPlay', WHERE WHAT IT READS IS OF BULK AT MOST 1048576: true; the input reads as it did. -/
def seensPlayUptoRow : OpenClaim := { program := "ytkklpbjgncpenaa", sum := "bee46cadefd2fca5bc21804639931b5aafb6ec0d6dbbd73301bf959115b69cb4", func := "ferryhouse/ferryhouselaw25.SeensPlay", spec := "seensPlay", inPlace := ["maps.clone"], plainKeys := false, apart := false, narrowed := true }
def SeensPlayUptoSaid : Prop := seensPlayUptoRow.holds Try.pinned (OpenSpec.upto seensPlaySpec)

/-- 'ferryhouselaw25.SeensVoid', WHERE WHAT IT READS IS OF BULK AT MOST 1048576: true; the input reads as it did. -/
def seensVoidUptoRow : OpenClaim := { program := "ytkklpbjgncpenaa", sum := "bee46cadefd2fca5bc21804639931b5aafb6ec0d6dbbd73301bf959115b69cb4", func := "ferryhouse/ferryhouselaw25.SeensVoid", spec := "seensVoid", inPlace := ["maps.clone"], plainKeys := false, apart := false, narrowed := true }
def SeensVoidUptoSaid : Prop := seensVoidUptoRow.holds Try.pinned (OpenSpec.upto seensVoidSpec)

end Rows
end Go.Proofs.Ytkklpbjgncpenaa
