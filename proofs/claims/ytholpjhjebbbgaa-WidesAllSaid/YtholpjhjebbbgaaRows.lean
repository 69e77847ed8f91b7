/-
  No cell of these rows narrows 'for every input' (looked for: loops, veiled, ifaces, maps, wideKeys, modest, calm, conditions, laid).
  DERIVED. THE GIVEN ROWS OF THIS SEAT. 4 by the template 'for every input the law returns true; each argument reads behind the call as it read before'; 0 by the template 'total and deterministic' (their statements: YtholpjhjebbbgaaTotals.lean).
  GIVEN WITH THE SEED: the statements are not yours to turn. If you find one false, say at which input.
  Laid BY PROGRAM, IN A SANDBOX (cutbox-rows.mjs): the forced cells as the released guide's own fill.sh prints them over the translation 051fd4eb10864c9a… (all of the seat's roots in one cut). By AI agents, Wed Nov 11 2026. No macro, syntax, notation, axiom, sorry.
-/
import Derived.Test.YtholpjhjebbbgaaChecked
import GoSem.Claim
import GoSem.ClaimJoined
import GoSem.ClaimMapViews
import Derived.JoinedTies
import Derived.KernelRfl
namespace Go.Proofs.Ytholpjhjebbbgaa
/- THE CELL 'sum', in the pinned program and in every row, IS THE sha256 OF THE DUMP (.gsa) THAT YtholpjhjebbbgaaProg.lean LOADS. Nothing in Lean hashes anything: it is a label: what it is worth is what the hold of that sum in a sandbox is worth. -/
noncomputable def Try.pinned : Pinned := { name := "ytholpjhjebbbgaa", sum := "051fd4eb10864c9a23f8b7a1f9c6c0d2230887a750c19e53809fc96e8e67efd5", checked := Try.checked }
namespace Rows
def none {H : Type} : Left H := { results := [], args := [] }

/-- 'ferryhouselaw02.WidesAll': WHATEVER THE INPUT: true; the input reads as it did. -/
def widesAllSpec : ChangeSpec := { name := "widesAll", fn := fun _ => fun
  | [d1, d2] => { results := [.lit (.bool true)], args := [d1, d2] }
  | _ => none }
def widesAllRow : OpenClaim := { program := "ytholpjhjebbbgaa", sum := "051fd4eb10864c9a23f8b7a1f9c6c0d2230887a750c19e53809fc96e8e67efd5", func := "ferryhouse/ferryhouselaw02.WidesAll", spec := "widesAll", inPlace := ["math/bits.Add64"], unfollowed := true, recurses := true, named := ["math/bits.divideError", "math/bits.overflowError"], apart := false }
def WidesAllSaid : Prop := widesAllRow.holds Try.pinned (OpenSpec.ofChange widesAllSpec)

/-- ITS FALSE NEIGHBOUR: 'it returns false'. Refute it at one input. -/
def widesAllWrong : ChangeSpec := { name := "widesAll", fn := fun _ => fun
  | [d1, d2] => { results := [.lit (.bool false)], args := [d1, d2] }
  | _ => none }
def WidesAllWrongFalsely : Prop := widesAllRow.holds Try.pinned (OpenSpec.ofChange widesAllWrong)

/-- 'ferryhouselaw02.WidesTimes': WHATEVER THE INPUT: true; the input reads as it did. -/
def widesTimesSpec : ChangeSpec := { name := "widesTimes", fn := fun _ => fun
  | [d1, d2, d3] => { results := [.lit (.bool true)], args := [d1, d2, d3] }
  | _ => none }
def widesTimesRow : OpenClaim := { program := "ytholpjhjebbbgaa", sum := "051fd4eb10864c9a23f8b7a1f9c6c0d2230887a750c19e53809fc96e8e67efd5", func := "ferryhouse/ferryhouselaw02.WidesTimes", spec := "widesTimes", inPlace := ["math/bits.Add64"], unfollowed := true, recurses := true, named := ["math/bits.divideError", "math/bits.overflowError"], apart := false }
def WidesTimesSaid : Prop := widesTimesRow.holds Try.pinned (OpenSpec.ofChange widesTimesSpec)

/-- ITS FALSE NEIGHBOUR: 'it returns false'. Refute it at one input. -/
def widesTimesWrong : ChangeSpec := { name := "widesTimes", fn := fun _ => fun
  | [d1, d2, d3] => { results := [.lit (.bool false)], args := [d1, d2, d3] }
  | _ => none }
def WidesTimesWrongFalsely : Prop := widesTimesRow.holds Try.pinned (OpenSpec.ofChange widesTimesWrong)

/-- 'ferryhouselaw02.WidesMul': WHATEVER THE INPUT: true; the input reads as it did. -/
def widesMulSpec : ChangeSpec := { name := "widesMul", fn := fun _ => fun
  | [d1, d2] => { results := [.lit (.bool true)], args := [d1, d2] }
  | _ => none }
def widesMulRow : OpenClaim := { program := "ytholpjhjebbbgaa", sum := "051fd4eb10864c9a23f8b7a1f9c6c0d2230887a750c19e53809fc96e8e67efd5", func := "ferryhouse/ferryhouselaw02.WidesMul", spec := "widesMul", inPlace := ["math/bits.Add64"], unfollowed := true, recurses := true, named := ["math/bits.divideError", "math/bits.overflowError"], apart := false }
def WidesMulSaid : Prop := widesMulRow.holds Try.pinned (OpenSpec.ofChange widesMulSpec)

/-- ITS FALSE NEIGHBOUR: 'it returns false'. Refute it at one input. -/
def widesMulWrong : ChangeSpec := { name := "widesMul", fn := fun _ => fun
  | [d1, d2] => { results := [.lit (.bool false)], args := [d1, d2] }
  | _ => none }
def WidesMulWrongFalsely : Prop := widesMulRow.holds Try.pinned (OpenSpec.ofChange widesMulWrong)

/-- 'ferryhouselaw02.WidesSums': WHATEVER THE INPUT: true; the input reads as it did. -/
def widesSumsSpec : ChangeSpec := { name := "widesSums", fn := fun _ => fun
  | [d1, d2, d3] => { results := [.lit (.bool true)], args := [d1, d2, d3] }
  | _ => none }
def widesSumsRow : OpenClaim := { program := "ytholpjhjebbbgaa", sum := "051fd4eb10864c9a23f8b7a1f9c6c0d2230887a750c19e53809fc96e8e67efd5", func := "ferryhouse/ferryhouselaw02.WidesSums", spec := "widesSums", inPlace := ["math/bits.Add64"], unfollowed := true, recurses := true, named := ["math/bits.divideError", "math/bits.overflowError"], apart := false }
def WidesSumsSaid : Prop := widesSumsRow.holds Try.pinned (OpenSpec.ofChange widesSumsSpec)

/-- ITS FALSE NEIGHBOUR: 'it returns false'. Refute it at one input. -/
def widesSumsWrong : ChangeSpec := { name := "widesSums", fn := fun _ => fun
  | [d1, d2, d3] => { results := [.lit (.bool false)], args := [d1, d2, d3] }
  | _ => none }
def WidesSumsWrongFalsely : Prop := widesSumsRow.holds Try.pinned (OpenSpec.ofChange widesSumsWrong)

/- THE SECOND FORM. 'bulk': how many values and letters a reading holds, each counted each time it is reached (what is shared counts as often as it is met; a slice's spare places count too). A statement '..UptoSaid' is the law's where the arguments, and the package variables that the reading takes, are together of bulk at most 1048576: NARROWER than '..Said'. Prove '..Said' where nothing that the law and all that it calls make is longer than what came in: it says more and counts as full. Else prove '..UptoSaid'. A law counts once. -/
mutual
def uptoBulk {H : Type} : DataW H → Nat
  | .lit (.string bytes) => bytes.length + 1
  | .lit _ => 1
  | .nil => 1
  | .ptr d => uptoBulk d + 1
  | .slice elems spare => uptoBulkAll elems + uptoBulkAll spare + 1
  | .agg parts => uptoBulkAll parts + 1
  | .iface _ d => uptoBulk d + 1
  | .map entries => uptoBulkEntries entries + 1
  | .held _ => 1
def uptoBulkAll {H : Type} : List (DataW H) → Nat
  | [] => 0
  | d :: r => uptoBulk d + uptoBulkAll r
def uptoBulkEntries {H : Type} : List (Lit × DataW H) → Nat
  | [] => 0
  | x :: r => uptoBulkEntry x + uptoBulkEntries r
def uptoBulkEntry {H : Type} : Lit × DataW H → Nat
  | (.string bytes, d) => bytes.length + uptoBulk d + 1
  | (_, d) => uptoBulk d + 1
 end
def uptoSmall : (H : Type) → List (DataW H) → Bool := fun _ ds => decide (uptoBulkAll ds ≤ 1048576)
def OpenSpec.upto (s : _root_.Go.ChangeSpec) : _root_.Go.OpenSpec := { _root_.Go.OpenSpec.ofChange s with cond := some uptoSmall }

/-- 'ferryhouselaw02.WidesAll', WHERE WHAT IT READS IS OF BULK AT MOST 1048576: true; the input reads as it did. -/
def widesAllUptoRow : OpenClaim := { program := "ytholpjhjebbbgaa", sum := "051fd4eb10864c9a23f8b7a1f9c6c0d2230887a750c19e53809fc96e8e67efd5", func := "ferryhouse/ferryhouselaw02.WidesAll", spec := "widesAll", inPlace := ["math/bits.Add64"], unfollowed := true, recurses := true, named := ["math/bits.divideError", "math/bits.overflowError"], apart := false, narrowed := true }
def WidesAllUptoSaid : Prop := widesAllUptoRow.holds Try.pinned (OpenSpec.upto widesAllSpec)

/-- 'ferryhouselaw02.WidesTimes', WHERE WHAT IT READS IS OF BULK AT MOST 1048576: true; the input reads as it did. -/
def widesTimesUptoRow : OpenClaim := { program := "ytholpjhjebbbgaa", sum := "051fd4eb10864c9a23f8b7a1f9c6c0d2230887a750c19e53809fc96e8e67efd5", func := "ferryhouse/ferryhouselaw02.WidesTimes", spec := "widesTimes", inPlace := ["math/bits.Add64"], unfollowed := true, recurses := true, named := ["math/bits.divideError", "math/bits.overflowError"], apart := false, narrowed := true }
def WidesTimesUptoSaid : Prop := widesTimesUptoRow.holds Try.pinned (OpenSpec.upto widesTimesSpec)

/-- 'ferryhouselaw02.WidesMul', WHERE WHAT IT READS IS OF BULK AT MOST 1048576: true; the input reads as it did. -/
def widesMulUptoRow : OpenClaim := { program := "ytholpjhjebbbgaa", sum := "051fd4eb10864c9a23f8b7a1f9c6c0d2230887a750c19e53809fc96e8e67efd5", func := "ferryhouse/ferryhouselaw02.WidesMul", spec := "widesMul", inPlace := ["math/bits.Add64"], unfollowed := true, recurses := true, named := ["math/bits.divideError", "math/bits.overflowError"], apart := false, narrowed := true }
def WidesMulUptoSaid : Prop := widesMulUptoRow.holds Try.pinned (OpenSpec.upto widesMulSpec)

/-- 'ferryhouselaw02.WidesSums', WHERE WHAT IT READS IS OF BULK AT MOST 1048576: true; the input reads as it did. -/
def widesSumsUptoRow : OpenClaim := { program := "ytholpjhjebbbgaa", sum := "051fd4eb10864c9a23f8b7a1f9c6c0d2230887a750c19e53809fc96e8e67efd5", func := "ferryhouse/ferryhouselaw02.WidesSums", spec := "widesSums", inPlace := ["math/bits.Add64"], unfollowed := true, recurses := true, named := ["math/bits.divideError", "math/bits.overflowError"], apart := false, narrowed := true }
def WidesSumsUptoSaid : Prop := widesSumsUptoRow.holds Try.pinned (OpenSpec.upto widesSumsSpec)

end Rows
end Go.Proofs.Ytholpjhjebbbgaa
