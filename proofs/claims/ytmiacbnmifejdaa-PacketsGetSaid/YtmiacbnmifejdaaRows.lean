/-
  No cell of these rows narrows 'for every input' (looked for: loops, veiled, ifaces, maps, wideKeys, modest, calm, conditions, laid).
  DERIVED. THE GIVEN ROWS OF THIS SEAT. 5 by the template 'for every input the law returns true; each argument reads behind the call as it read before'; 0 by the template 'total and deterministic' (their statements: YtmiacbnmifejdaaTotals.lean).
  GIVEN WITH THE SEED: the statements are not yours to turn. If you find one false, say at which input.
  Laid BY PROGRAM, IN A SANDBOX (cutbox-rows.mjs): the forced cells as the released guide's own fill.sh prints them over the translation ebfb6f456cae0eaf… (all of the seat's roots in one cut). By AI agents, Wed Nov 11 2026. No macro, syntax, notation, axiom, sorry.
-/
import Derived.Test.YtmiacbnmifejdaaChecked
import GoSem.Claim
import GoSem.ClaimJoined
import GoSem.ClaimMapViews
import Derived.JoinedTies
import Derived.KernelRfl
namespace Go.Proofs.Ytmiacbnmifejdaa
/- THE CELL 'sum', in the pinned program and in every row, IS THE sha256 OF THE DUMP (.gsa) THAT YtmiacbnmifejdaaProg.lean LOADS. Nothing in Lean hashes anything: it is a label: what it is worth is what the hold of that sum in a sandbox is worth. -/
noncomputable def Try.pinned : Pinned := { name := "ytmiacbnmifejdaa", sum := "ebfb6f456cae0eaf0b3e1f34f63ba2046618b190d380179413ef35cea7729fe5", checked := Try.checked }
namespace Rows
def none {H : Type} : Left H := { results := [], args := [] }

/-- 'ferryhouselaw04.PacketsPut': WHATEVER THE INPUT: true; the input reads as it did. -/
def packetsPutSpec : ChangeSpec := { name := "packetsPut", fn := fun _ => fun
  | [d] => { results := [.lit (.bool true)], args := [d] }
  | _ => none }
def packetsPutRow : OpenClaim := { program := "ytmiacbnmifejdaa", sum := "ebfb6f456cae0eaf0b3e1f34f63ba2046618b190d380179413ef35cea7729fe5", func := "ferryhouse/ferryhouselaw04.PacketsPut", spec := "packetsPut", unfollowed := true, recurses := true, apart := false }
def PacketsPutSaid : Prop := packetsPutRow.holds Try.pinned (OpenSpec.ofChange packetsPutSpec)

/-- ITS FALSE NEIGHBOUR: 'it returns false'. Refute it at one input. -/
def packetsPutWrong : ChangeSpec := { name := "packetsPut", fn := fun _ => fun
  | [d] => { results := [.lit (.bool false)], args := [d] }
  | _ => none }
def PacketsPutWrongFalsely : Prop := packetsPutRow.holds Try.pinned (OpenSpec.ofChange packetsPutWrong)

/-- 'ferryhouselaw04.PacketsGet': WHATEVER THE INPUT: true; the input reads as it did. -/
def packetsGetSpec : ChangeSpec := { name := "packetsGet", fn := fun _ => fun
  | [d] => { results := [.lit (.bool true)], args := [d] }
  | _ => none }
def packetsGetRow : OpenClaim := { program := "ytmiacbnmifejdaa", sum := "ebfb6f456cae0eaf0b3e1f34f63ba2046618b190d380179413ef35cea7729fe5", func := "ferryhouse/ferryhouselaw04.PacketsGet", spec := "packetsGet", unfollowed := true, recurses := true, apart := false }
def PacketsGetSaid : Prop := packetsGetRow.holds Try.pinned (OpenSpec.ofChange packetsGetSpec)

/-- ITS FALSE NEIGHBOUR: 'it returns false'. Refute it at one input. -/
def packetsGetWrong : ChangeSpec := { name := "packetsGet", fn := fun _ => fun
  | [d] => { results := [.lit (.bool false)], args := [d] }
  | _ => none }
def PacketsGetWrongFalsely : Prop := packetsGetRow.holds Try.pinned (OpenSpec.ofChange packetsGetWrong)

/-- 'ferryhouselaw04.PacketsBack': WHATEVER THE INPUT: true; the input reads as it did. -/
def packetsBackSpec : ChangeSpec := { name := "packetsBack", fn := fun _ => fun
  | [d1, d2, d3] => { results := [.lit (.bool true)], args := [d1, d2, d3] }
  | _ => none }
def packetsBackRow : OpenClaim := { program := "ytmiacbnmifejdaa", sum := "ebfb6f456cae0eaf0b3e1f34f63ba2046618b190d380179413ef35cea7729fe5", func := "ferryhouse/ferryhouselaw04.PacketsBack", spec := "packetsBack", unfollowed := true, recurses := true, apart := false }
def PacketsBackSaid : Prop := packetsBackRow.holds Try.pinned (OpenSpec.ofChange packetsBackSpec)

/-- ITS FALSE NEIGHBOUR: 'it returns false'. Refute it at one input. -/
def packetsBackWrong : ChangeSpec := { name := "packetsBack", fn := fun _ => fun
  | [d1, d2, d3] => { results := [.lit (.bool false)], args := [d1, d2, d3] }
  | _ => none }
def PacketsBackWrongFalsely : Prop := packetsBackRow.holds Try.pinned (OpenSpec.ofChange packetsBackWrong)

/-- 'ferryhouselaw04.PacketsOnly': WHATEVER THE INPUT: true; the input reads as it did. -/
def packetsOnlySpec : ChangeSpec := { name := "packetsOnly", fn := fun _ => fun
  | [d] => { results := [.lit (.bool true)], args := [d] }
  | _ => none }
def packetsOnlyRow : OpenClaim := { program := "ytmiacbnmifejdaa", sum := "ebfb6f456cae0eaf0b3e1f34f63ba2046618b190d380179413ef35cea7729fe5", func := "ferryhouse/ferryhouselaw04.PacketsOnly", spec := "packetsOnly", unfollowed := true, recurses := true, apart := false }
def PacketsOnlySaid : Prop := packetsOnlyRow.holds Try.pinned (OpenSpec.ofChange packetsOnlySpec)

/-- ITS FALSE NEIGHBOUR: 'it returns false'. Refute it at one input. -/
def packetsOnlyWrong : ChangeSpec := { name := "packetsOnly", fn := fun _ => fun
  | [d] => { results := [.lit (.bool false)], args := [d] }
  | _ => none }
def PacketsOnlyWrongFalsely : Prop := packetsOnlyRow.holds Try.pinned (OpenSpec.ofChange packetsOnlyWrong)

/-- 'ferryhouselaw04.PacketsLong': WHATEVER THE INPUT: true; the input reads as it did. -/
def packetsLongSpec : ChangeSpec := { name := "packetsLong", fn := fun _ => fun
  | [d] => { results := [.lit (.bool true)], args := [d] }
  | _ => none }
def packetsLongRow : OpenClaim := { program := "ytmiacbnmifejdaa", sum := "ebfb6f456cae0eaf0b3e1f34f63ba2046618b190d380179413ef35cea7729fe5", func := "ferryhouse/ferryhouselaw04.PacketsLong", spec := "packetsLong", unfollowed := true, recurses := true, apart := false }
def PacketsLongSaid : Prop := packetsLongRow.holds Try.pinned (OpenSpec.ofChange packetsLongSpec)

/-- ITS FALSE NEIGHBOUR: 'it returns false'. Refute it at one input. -/
def packetsLongWrong : ChangeSpec := { name := "packetsLong", fn := fun _ => fun
  | [d] => { results := [.lit (.bool false)], args := [d] }
  | _ => none }
def PacketsLongWrongFalsely : Prop := packetsLongRow.holds Try.pinned (OpenSpec.ofChange packetsLongWrong)

/- THE SECOND FORM. 'bulk': how many values and letters a reading holds, each counted each time it is reached (what is shared counts as often as it is met; a slice's spare places count too). A statement '..UptoSaid' is the law's where the arguments, and the package variables that the reading takes, are together of bulk at most 1048576: NARROWER than '..Said'. Prove '..Said' where nothing that the law and all that it calls make is longer than what came in: it says more and counts as full. Else prove '..UptoSaid'. A law counts once. -/
mutual
def uptoBulk {H : Type} : DataW H → Nat
  | .lit (.string bytes) => bytes.length + 1
  | .lit _ => 1
  | .nil => 1
  | .ptr d => uptoBulk d + 1
  | .slice elems spare => uptoBulkAll elems + uptoBulkAll spare + 1
  | .agg parts => uptoBulkAll parts + 1
  | .iface _ d => uptoBulk d + 1
  | .map entries => uptoBulkEntries entries + 1
  | .held _ => 1
def uptoBulkAll {H : Type} : List (DataW H) → Nat
  | [] => 0
  | d :: r => uptoBulk d + uptoBulkAll r
def uptoBulkEntries {H : Type} : List (Lit × DataW H) → Nat
  | [] => 0
  | x :: r => uptoBulkEntry x + uptoBulkEntries r
def uptoBulkEntry {H : Type} : Lit × DataW H → Nat
  | (.string bytes, d) => bytes.length + uptoBulk d + 1
  | (_, d) => uptoBulk d + 1
 end
def uptoSmall : (H : Type) → List (DataW H) → Bool := fun _ ds => decide (uptoBulkAll ds ≤ 1048576)
def OpenSpec.upto (s : _root_.Go.ChangeSpec) : _root_.Go.OpenSpec := { _root_.Go.OpenSpec.ofChange s with cond := some uptoSmall }

/-- 'ferryhouselaw04.PacketsPut', WHERE WHAT IT READS IS OF BULK AT MOST 1048576: true; the input reads as it did. -/
def packetsPutUptoRow : OpenClaim := { program := "ytmiacbnmifejdaa", sum := "ebfb6f456cae0eaf0b3e1f34f63ba2046618b190d380179413ef35cea7729fe5", func := "ferryhouse/ferryhouselaw04.PacketsPut", spec := "packetsPut", unfollowed := true, recurses := true, apart := false, narrowed := true }
def PacketsPutUptoSaid : Prop := packetsPutUptoRow.holds Try.pinned (OpenSpec.upto packetsPutSpec)

/-- 'ferryhouselaw04.PacketsGet', WHERE WHAT IT READS IS OF BULK AT MOST 1048576: true; the input reads as it did. -/
def packetsGetUptoRow : OpenClaim := { program := "ytmiacbnmifejdaa", sum := "ebfb6f456cae0eaf0b3e1f34f63ba2046618b190d380179413ef35cea7729fe5", func := "ferryhouse/ferryhouselaw04.PacketsGet", spec := "packetsGet", unfollowed := true, recurses := true, apart := false, narrowed := true }
def PacketsGetUptoSaid : Prop := packetsGetUptoRow.holds Try.pinned (OpenSpec.upto packetsGetSpec)

/-- 'ferryhouselaw04.PacketsBack', WHERE WHAT IT READS IS OF BULK AT MOST 1048576: true; the input reads as it did. -/
def packetsBackUptoRow : OpenClaim := { program := "ytmiacbnmifejdaa", sum := "ebfb6f456cae0eaf0b3e1f34f63ba2046618b190d380179413ef35cea7729fe5", func := "ferryhouse/ferryhouselaw04.PacketsBack", spec := "packetsBack", unfollowed := true, recurses := true, apart := false, narrowed := true }
def PacketsBackUptoSaid : Prop := packetsBackUptoRow.holds Try.pinned (OpenSpec.upto packetsBackSpec)

/-- 'ferryhouselaw04.PacketsOnly', WHERE WHAT IT READS IS OF BULK AT MOST 1048576: true; the input reads as it did. -/
def packetsOnlyUptoRow : OpenClaim := { program := "ytmiacbnmifejdaa", sum := "ebfb6f456cae0eaf0b3e1f34f63ba2046618b190d380179413ef35cea7729fe5", func := "ferryhouse/ferryhouselaw04.PacketsOnly", spec := "packetsOnly", unfollowed := true, recurses := true, apart := false, narrowed := true }
def PacketsOnlyUptoSaid : Prop := packetsOnlyUptoRow.holds Try.pinned (OpenSpec.upto packetsOnlySpec)

/-- 'ferryhouselaw04.PacketsLong', WHERE WHAT IT READS IS OF BULK AT MOST 1048576: true; the input reads as it did. -/
def packetsLongUptoRow : OpenClaim := { program := "ytmiacbnmifejdaa", sum := "ebfb6f456cae0eaf0b3e1f34f63ba2046618b190d380179413ef35cea7729fe5", func := "ferryhouse/ferryhouselaw04.PacketsLong", spec := "packetsLong", unfollowed := true, recurses := true, apart := false, narrowed := true }
def PacketsLongUptoSaid : Prop := packetsLongUptoRow.holds Try.pinned (OpenSpec.upto packetsLongSpec)

end Rows
end Go.Proofs.Ytmiacbnmifejdaa
