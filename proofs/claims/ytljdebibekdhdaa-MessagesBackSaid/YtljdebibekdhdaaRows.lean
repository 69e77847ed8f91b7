/-
  No cell of these rows narrows 'for every input' (looked for: loops, veiled, ifaces, maps, wideKeys, modest, calm, conditions, laid).
  DERIVED. THE GIVEN ROWS OF THIS SEAT. 5 by the template 'for every input the law returns true; each argument reads behind the call as it read before'; 0 by the template 'total and deterministic' (their statements: YtljdebibekdhdaaTotals.lean).
  GIVEN WITH THE SEED: the statements are not yours to turn. If you find one false, say at which input.
  Laid BY PROGRAM, IN A SANDBOX (cutbox-rows.mjs): the forced cells as the released guide's own fill.sh prints them over the translation 784f7376f215ff2d… (all of the seat's roots in one cut). By AI agents, Wed Nov 11 2026. No macro, syntax, notation, axiom, sorry.
-/
import Derived.Test.YtljdebibekdhdaaChecked
import GoSem.Claim
import GoSem.ClaimJoined
import GoSem.ClaimMapViews
import Derived.JoinedTies
import Derived.KernelRfl
namespace Go.Proofs.Ytljdebibekdhdaa
/- THE CELL 'sum', in the pinned program and in every row, IS THE sha256 OF THE DUMP (.gsa) THAT YtljdebibekdhdaaProg.lean LOADS. Nothing in Lean hashes anything: it is a label: what it is worth is what the hold of that sum in a sandbox is worth. -/
noncomputable def Try.pinned : Pinned := { name := "ytljdebibekdhdaa", sum := "784f7376f215ff2d193a57923848890ca1877ff5eb5937d2cf6905d8e1220b4c", checked := Try.checked }
namespace Rows
def none {H : Type} : Left H := { results := [], args := [] }

/-- 'ferryhouselaw03.MessagesPut': WHATEVER THE INPUT: true; the input reads as it did. -/
def messagesPutSpec : ChangeSpec := { name := "messagesPut", fn := fun _ => fun
  | [d] => { results := [.lit (.bool true)], args := [d] }
  | _ => none }
def messagesPutRow : OpenClaim := { program := "ytljdebibekdhdaa", sum := "784f7376f215ff2d193a57923848890ca1877ff5eb5937d2cf6905d8e1220b4c", func := "ferryhouse/ferryhouselaw03.MessagesPut", spec := "messagesPut", unfollowed := true, recurses := true, apart := false }
def MessagesPutSaid : Prop := messagesPutRow.holds Try.pinned (OpenSpec.ofChange messagesPutSpec)

/-- ITS FALSE NEIGHBOUR: 'it returns false'. Refute it at one input. -/
def messagesPutWrong : ChangeSpec := { name := "messagesPut", fn := fun _ => fun
  | [d] => { results := [.lit (.bool false)], args := [d] }
  | _ => none }
def MessagesPutWrongFalsely : Prop := messagesPutRow.holds Try.pinned (OpenSpec.ofChange messagesPutWrong)

/-- 'ferryhouselaw03.MessagesGet': WHATEVER THE INPUT: true; the input reads as it did. -/
def messagesGetSpec : ChangeSpec := { name := "messagesGet", fn := fun _ => fun
  | [d] => { results := [.lit (.bool true)], args := [d] }
  | _ => none }
def messagesGetRow : OpenClaim := { program := "ytljdebibekdhdaa", sum := "784f7376f215ff2d193a57923848890ca1877ff5eb5937d2cf6905d8e1220b4c", func := "ferryhouse/ferryhouselaw03.MessagesGet", spec := "messagesGet", unfollowed := true, recurses := true, apart := false }
def MessagesGetSaid : Prop := messagesGetRow.holds Try.pinned (OpenSpec.ofChange messagesGetSpec)

/-- ITS FALSE NEIGHBOUR: 'it returns false'. Refute it at one input. -/
def messagesGetWrong : ChangeSpec := { name := "messagesGet", fn := fun _ => fun
  | [d] => { results := [.lit (.bool false)], args := [d] }
  | _ => none }
def MessagesGetWrongFalsely : Prop := messagesGetRow.holds Try.pinned (OpenSpec.ofChange messagesGetWrong)

/-- 'ferryhouselaw03.MessagesBack': WHATEVER THE INPUT: true; the input reads as it did. -/
def messagesBackSpec : ChangeSpec := { name := "messagesBack", fn := fun _ => fun
  | [d1, d2, d3] => { results := [.lit (.bool true)], args := [d1, d2, d3] }
  | _ => none }
def messagesBackRow : OpenClaim := { program := "ytljdebibekdhdaa", sum := "784f7376f215ff2d193a57923848890ca1877ff5eb5937d2cf6905d8e1220b4c", func := "ferryhouse/ferryhouselaw03.MessagesBack", spec := "messagesBack", unfollowed := true, recurses := true, apart := false }
def MessagesBackSaid : Prop := messagesBackRow.holds Try.pinned (OpenSpec.ofChange messagesBackSpec)

/-- ITS FALSE NEIGHBOUR: 'it returns false'. Refute it at one input. -/
def messagesBackWrong : ChangeSpec := { name := "messagesBack", fn := fun _ => fun
  | [d1, d2, d3] => { results := [.lit (.bool false)], args := [d1, d2, d3] }
  | _ => none }
def MessagesBackWrongFalsely : Prop := messagesBackRow.holds Try.pinned (OpenSpec.ofChange messagesBackWrong)

/-- 'ferryhouselaw03.MessagesOnly': WHATEVER THE INPUT: true; the input reads as it did. -/
def messagesOnlySpec : ChangeSpec := { name := "messagesOnly", fn := fun _ => fun
  | [d] => { results := [.lit (.bool true)], args := [d] }
  | _ => none }
def messagesOnlyRow : OpenClaim := { program := "ytljdebibekdhdaa", sum := "784f7376f215ff2d193a57923848890ca1877ff5eb5937d2cf6905d8e1220b4c", func := "ferryhouse/ferryhouselaw03.MessagesOnly", spec := "messagesOnly", unfollowed := true, recurses := true, apart := false }
def MessagesOnlySaid : Prop := messagesOnlyRow.holds Try.pinned (OpenSpec.ofChange messagesOnlySpec)

/-- ITS FALSE NEIGHBOUR: 'it returns false'. Refute it at one input. -/
def messagesOnlyWrong : ChangeSpec := { name := "messagesOnly", fn := fun _ => fun
  | [d] => { results := [.lit (.bool false)], args := [d] }
  | _ => none }
def MessagesOnlyWrongFalsely : Prop := messagesOnlyRow.holds Try.pinned (OpenSpec.ofChange messagesOnlyWrong)

/-- 'ferryhouselaw03.MessagesKinds': WHATEVER THE INPUT: true; the input reads as it did. -/
def messagesKindsSpec : ChangeSpec := { name := "messagesKinds", fn := fun _ => fun
  | [d] => { results := [.lit (.bool true)], args := [d] }
  | _ => none }
def messagesKindsRow : OpenClaim := { program := "ytljdebibekdhdaa", sum := "784f7376f215ff2d193a57923848890ca1877ff5eb5937d2cf6905d8e1220b4c", func := "ferryhouse/ferryhouselaw03.MessagesKinds", spec := "messagesKinds", unfollowed := true, recurses := true, apart := false }
def MessagesKindsSaid : Prop := messagesKindsRow.holds Try.pinned (OpenSpec.ofChange messagesKindsSpec)

/-- ITS FALSE NEIGHBOUR: 'it returns false'. Refute it at one input. -/
def messagesKindsWrong : ChangeSpec := { name := "messagesKinds", fn := fun _ => fun
  | [d] => { results := [.lit (.bool false)], args := [d] }
  | _ => none }
def MessagesKindsWrongFalsely : Prop := messagesKindsRow.holds Try.pinned (OpenSpec.ofChange messagesKindsWrong)

/- THE SECOND FORM. 'bulk': how many values and letters a reading holds, each counted each time it is reached (what is shared counts as often as it is met; a slice's spare places count too). A statement '..UptoSaid' is the law's where the arguments, and the package variables that the reading takes, are together of bulk at most 1048576: NARROWER than '..Said'. Prove '..Said' where nothing that the law and all that it calls make is longer than what came in: it says more and counts as full. Else prove '..UptoSaid'. A law counts once. -/
mutual
def uptoBulk {H : Type} : DataW H → Nat
  | .lit (.string bytes) => bytes.length + 1
  | .lit _ => 1
  | .nil => 1
  | .ptr d => uptoBulk d + 1
  | .slice elems spare => uptoBulkAll elems + uptoBulkAll spare + 1
  | .agg parts => uptoBulkAll parts + 1
  | .iface _ d => uptoBulk d + 1
  | .map entries => uptoBulkEntries entries + 1
  | .held _ => 1
def uptoBulkAll {H : Type} : List (DataW H) → Nat
  | [] => 0
  | d :: r => uptoBulk d + uptoBulkAll r
def uptoBulkEntries {H : Type} : List (Lit × DataW H) → Nat
  | [] => 0
  | x :: r => uptoBulkEntry x + uptoBulkEntries r
def uptoBulkEntry {H : Type} : Lit × DataW H → Nat
  | (.string bytes, d) => bytes.length + uptoBulk d + 1
  | (_, d) => uptoBulk d + 1
 end
def uptoSmall : (H : Type) → List (DataW H) → Bool := fun _ ds => decide (uptoBulkAll ds ≤ 1048576)
def OpenSpec.upto (s : _root_.Go.ChangeSpec) : _root_.Go.OpenSpec := { _root_.Go.OpenSpec.ofChange s with cond := some uptoSmall }

/-- 'ferryhouselaw03.MessagesPut', WHERE WHAT IT READS IS OF BULK AT MOST 1048576: true; the input reads as it did. -/
def messagesPutUptoRow : OpenClaim := { program := "ytljdebibekdhdaa", sum := "784f7376f215ff2d193a57923848890ca1877ff5eb5937d2cf6905d8e1220b4c", func := "ferryhouse/ferryhouselaw03.MessagesPut", spec := "messagesPut", unfollowed := true, recurses := true, apart := false, narrowed := true }
def MessagesPutUptoSaid : Prop := messagesPutUptoRow.holds Try.pinned (OpenSpec.upto messagesPutSpec)

/-- 'ferryhouselaw03.MessagesGet', WHERE WHAT IT READS IS OF BULK AT MOST 1048576: true; the input reads as it did. -/
def messagesGetUptoRow : OpenClaim := { program := "ytljdebibekdhdaa", sum := "784f7376f215ff2d193a57923848890ca1877ff5eb5937d2cf6905d8e1220b4c", func := "ferryhouse/ferryhouselaw03.MessagesGet", spec := "messagesGet", unfollowed := true, recurses := true, apart := false, narrowed := true }
def MessagesGetUptoSaid : Prop := messagesGetUptoRow.holds Try.pinned (OpenSpec.upto messagesGetSpec)

/-- 'ferryhouselaw03.MessagesBack', WHERE WHAT IT READS IS OF BULK AT MOST 1048576: true; the input reads as it did. -/
def messagesBackUptoRow : OpenClaim := { program := "ytljdebibekdhdaa", sum := "784f7376f215ff2d193a57923848890ca1877ff5eb5937d2cf6905d8e1220b4c", func := "ferryhouse/ferryhouselaw03.MessagesBack", spec := "messagesBack", unfollowed := true, recurses := true, apart := false, narrowed := true }
def MessagesBackUptoSaid : Prop := messagesBackUptoRow.holds Try.pinned (OpenSpec.upto messagesBackSpec)

/-- 'ferryhouselaw03.MessagesOnly', WHERE WHAT IT READS IS OF BULK AT MOST 1048576: true; the input reads as it did. -/
def messagesOnlyUptoRow : OpenClaim := { program := "ytljdebibekdhdaa", sum := "784f7376f215ff2d193a57923848890ca1877ff5eb5937d2cf6905d8e1220b4c", func := "ferryhouse/ferryhouselaw03.MessagesOnly", spec := "messagesOnly", unfollowed := true, recurses := true, apart := false, narrowed := true }
def MessagesOnlyUptoSaid : Prop := messagesOnlyUptoRow.holds Try.pinned (OpenSpec.upto messagesOnlySpec)

/-- 'ferryhouselaw03.MessagesKinds', WHERE WHAT IT READS IS OF BULK AT MOST 1048576: true; the input reads as it did. -/
def messagesKindsUptoRow : OpenClaim := { program := "ytljdebibekdhdaa", sum := "784f7376f215ff2d193a57923848890ca1877ff5eb5937d2cf6905d8e1220b4c", func := "ferryhouse/ferryhouselaw03.MessagesKinds", spec := "messagesKinds", unfollowed := true, recurses := true, apart := false, narrowed := true }
def MessagesKindsUptoSaid : Prop := messagesKindsUptoRow.holds Try.pinned (OpenSpec.upto messagesKindsSpec)

end Rows
end Go.Proofs.Ytljdebibekdhdaa
