/-
  No cell of these rows narrows 'for every input' (looked for: loops, veiled, ifaces, maps, wideKeys, modest, calm, conditions, laid).
  DERIVED. THE GIVEN ROWS OF THIS SEAT. 5 by the template 'for every input the law returns true; each argument reads behind the call as it read before'; 0 by the template 'total and deterministic' (their statements: YtiknpbndjnfjhaaTotals.lean).
  GIVEN WITH THE SEED: the statements are not yours to turn. If you find one false, say at which input.
  Laid BY PROGRAM, IN A SANDBOX (cutbox-rows.mjs): the forced cells as the released guide's own fill.sh prints them over the translation acb7c0db89a38bbc… (all of the seat's roots in one cut). By AI agents, Wed Nov 11 2026. No macro, syntax, notation, axiom, sorry.
-/
import Derived.Test.YtiknpbndjnfjhaaChecked
import GoSem.Claim
import GoSem.ClaimJoined
import GoSem.ClaimMapViews
import Derived.JoinedTies
import Derived.KernelRfl
namespace Go.Proofs.Ytiknpbndjnfjhaa
/- THE CELL 'sum', in the pinned program and in every row, IS THE sha256 OF THE DUMP (.gsa) THAT YtiknpbndjnfjhaaProg.lean LOADS. Nothing in Lean hashes anything: it is a label: what it is worth is what the hold of that sum in a sandbox is worth. -/
noncomputable def Try.pinned : Pinned := { name := "ytiknpbndjnfjhaa", sum := "acb7c0db89a38bbc071b1aed5c5dffe5add3959de0354083cc116e737884ba55", checked := Try.checked }
namespace Rows
def none {H : Type} : Left H := { results := [], args := [] }

/-- 'ferryhouselaw01.ShortsPut': WHATEVER THE INPUT: true; the input reads as it did. -/
def shortsPutSpec : ChangeSpec := { name := "shortsPut", fn := fun _ => fun
  | [d1, d2] => { results := [.lit (.bool true)], args := [d1, d2] }
  | _ => none }
def shortsPutRow : OpenClaim := { program := "ytiknpbndjnfjhaa", sum := "acb7c0db89a38bbc071b1aed5c5dffe5add3959de0354083cc116e737884ba55", func := "ferryhouse/ferryhouselaw01.ShortsPut", spec := "shortsPut", unfollowed := true, recurses := true, apart := false }
def ShortsPutSaid : Prop := shortsPutRow.holds Try.pinned (OpenSpec.ofChange shortsPutSpec)

/-- ITS FALSE NEIGHBOUR: 'it returns false'. Refute it at one input. -/
def shortsPutWrong : ChangeSpec := { name := "shortsPut", fn := fun _ => fun
  | [d1, d2] => { results := [.lit (.bool false)], args := [d1, d2] }
  | _ => none }
def ShortsPutWrongFalsely : Prop := shortsPutRow.holds Try.pinned (OpenSpec.ofChange shortsPutWrong)

/-- 'ferryhouselaw01.ShortsOnly': WHATEVER THE INPUT: true; the input reads as it did. -/
def shortsOnlySpec : ChangeSpec := { name := "shortsOnly", fn := fun _ => fun
  | [d] => { results := [.lit (.bool true)], args := [d] }
  | _ => none }
def shortsOnlyRow : OpenClaim := { program := "ytiknpbndjnfjhaa", sum := "acb7c0db89a38bbc071b1aed5c5dffe5add3959de0354083cc116e737884ba55", func := "ferryhouse/ferryhouselaw01.ShortsOnly", spec := "shortsOnly", apart := false }
def ShortsOnlySaid : Prop := shortsOnlyRow.holds Try.pinned (OpenSpec.ofChange shortsOnlySpec)

/-- ITS FALSE NEIGHBOUR: 'it returns false'. Refute it at one input. -/
def shortsOnlyWrong : ChangeSpec := { name := "shortsOnly", fn := fun _ => fun
  | [d] => { results := [.lit (.bool false)], args := [d] }
  | _ => none }
def ShortsOnlyWrongFalsely : Prop := shortsOnlyRow.holds Try.pinned (OpenSpec.ofChange shortsOnlyWrong)

/-- 'ferryhouselaw01.ShortsRise': WHATEVER THE INPUT: true; the input reads as it did. -/
def shortsRiseSpec : ChangeSpec := { name := "shortsRise", fn := fun _ => fun
  | [d1, d2] => { results := [.lit (.bool true)], args := [d1, d2] }
  | _ => none }
def shortsRiseRow : OpenClaim := { program := "ytiknpbndjnfjhaa", sum := "acb7c0db89a38bbc071b1aed5c5dffe5add3959de0354083cc116e737884ba55", func := "ferryhouse/ferryhouselaw01.ShortsRise", spec := "shortsRise", apart := false }
def ShortsRiseSaid : Prop := shortsRiseRow.holds Try.pinned (OpenSpec.ofChange shortsRiseSpec)

/-- ITS FALSE NEIGHBOUR: 'it returns false'. Refute it at one input. -/
def shortsRiseWrong : ChangeSpec := { name := "shortsRise", fn := fun _ => fun
  | [d1, d2] => { results := [.lit (.bool false)], args := [d1, d2] }
  | _ => none }
def ShortsRiseWrongFalsely : Prop := shortsRiseRow.holds Try.pinned (OpenSpec.ofChange shortsRiseWrong)

/-- 'ferryhouselaw01.ShortsGet': WHATEVER THE INPUT: true; the input reads as it did. -/
def shortsGetSpec : ChangeSpec := { name := "shortsGet", fn := fun _ => fun
  | [d1, d2] => { results := [.lit (.bool true)], args := [d1, d2] }
  | _ => none }
def shortsGetRow : OpenClaim := { program := "ytiknpbndjnfjhaa", sum := "acb7c0db89a38bbc071b1aed5c5dffe5add3959de0354083cc116e737884ba55", func := "ferryhouse/ferryhouselaw01.ShortsGet", spec := "shortsGet", apart := false }
def ShortsGetSaid : Prop := shortsGetRow.holds Try.pinned (OpenSpec.ofChange shortsGetSpec)

/-- ITS FALSE NEIGHBOUR: 'it returns false'. Refute it at one input. -/
def shortsGetWrong : ChangeSpec := { name := "shortsGet", fn := fun _ => fun
  | [d1, d2] => { results := [.lit (.bool false)], args := [d1, d2] }
  | _ => none }
def ShortsGetWrongFalsely : Prop := shortsGetRow.holds Try.pinned (OpenSpec.ofChange shortsGetWrong)

/-- 'ferryhouselaw01.ShortsBack': WHATEVER THE INPUT: true; the input reads as it did. -/
def shortsBackSpec : ChangeSpec := { name := "shortsBack", fn := fun _ => fun
  | [d1, d2, d3] => { results := [.lit (.bool true)], args := [d1, d2, d3] }
  | _ => none }
def shortsBackRow : OpenClaim := { program := "ytiknpbndjnfjhaa", sum := "acb7c0db89a38bbc071b1aed5c5dffe5add3959de0354083cc116e737884ba55", func := "ferryhouse/ferryhouselaw01.ShortsBack", spec := "shortsBack", apart := false }
def ShortsBackSaid : Prop := shortsBackRow.holds Try.pinned (OpenSpec.ofChange shortsBackSpec)

/-- ITS FALSE NEIGHBOUR: 'it returns false'. Refute it at one input. -/
def shortsBackWrong : ChangeSpec := { name := "shortsBack", fn := fun _ => fun
  | [d1, d2, d3] => { results := [.lit (.bool false)], args := [d1, d2, d3] }
  | _ => none }
def ShortsBackWrongFalsely : Prop := shortsBackRow.holds Try.pinned (OpenSpec.ofChange shortsBackWrong)

/- THE SECOND FORM. 'bulk': how many values and letters a reading holds, each counted each time it is reached (what is shared counts as often as it is met; a slice's spare places count too). A statement '..UptoSaid' is the law's where the arguments, and the package variables that the reading takes, are together of bulk at most 1048576: NARROWER than '..Said'. Prove '..Said' where nothing that the law and all that it calls make is longer than what came in: it says more and counts as full. Else prove '..UptoSaid'. A law counts once. -/
mutual
def uptoBulk {H : Type} : DataW H → Nat
  | .lit (.string bytes) => bytes.length + 1
  | .lit _ => 1
  | .nil => 1
  | .ptr d => uptoBulk d + 1
  | .slice elems spare => uptoBulkAll elems + uptoBulkAll spare + 1
  | .agg parts => uptoBulkAll parts + 1
  | .iface _ d => uptoBulk d + 1
  | .map entries => uptoBulkEntries entries + 1
  | .held _ => 1
def uptoBulkAll {H : Type} : List (DataW H) → Nat
  | [] => 0
  | d :: r => uptoBulk d + uptoBulkAll r
def uptoBulkEntries {H : Type} : List (Lit × DataW H) → Nat
  | [] => 0
  | x :: r => uptoBulkEntry x + uptoBulkEntries r
def uptoBulkEntry {H : Type} : Lit × DataW H → Nat
  | (.string bytes, d) => bytes.length + uptoBulk d + 1
  | (_, d) => uptoBulk d + 1
 end
def uptoSmall : (H : Type) → List (DataW H) → Bool := fun _ ds => decide (uptoBulkAll ds ≤ 1048576)
def OpenSpec.upto (s : _root_.Go.ChangeSpec) : _root_.Go.OpenSpec := { _root_.Go.OpenSpec.ofChange s with cond := some uptoSmall }

/-- 'ferryhouselaw01.ShortsPut', WHERE WHAT IT READS IS OF BULK AT MOST 1048576: true; the input reads as it did. -/
def shortsPutUptoRow : OpenClaim := { program := "ytiknpbndjnfjhaa", sum := "acb7c0db89a38bbc071b1aed5c5dffe5add3959de0354083cc116e737884ba55", func := "ferryhouse/ferryhouselaw01.ShortsPut", spec := "shortsPut", unfollowed := true, recurses := true, apart := false, narrowed := true }
def ShortsPutUptoSaid : Prop := shortsPutUptoRow.holds Try.pinned (OpenSpec.upto shortsPutSpec)

/-- 'ferryhouselaw01.ShortsOnly', WHERE WHAT IT READS IS OF BULK AT MOST 1048576: true; the input reads as it did. -/
def shortsOnlyUptoRow : OpenClaim := { program := "ytiknpbndjnfjhaa", sum := "acb7c0db89a38bbc071b1aed5c5dffe5add3959de0354083cc116e737884ba55", func := "ferryhouse/ferryhouselaw01.ShortsOnly", spec := "shortsOnly", apart := false, narrowed := true }
def ShortsOnlyUptoSaid : Prop := shortsOnlyUptoRow.holds Try.pinned (OpenSpec.upto shortsOnlySpec)

/-- 'ferryhouselaw01.ShortsRise', WHERE WHAT IT READS IS OF BULK AT MOST 1048576: true; the input reads as it did. -/
def shortsRiseUptoRow : OpenClaim := { program := "ytiknpbndjnfjhaa", sum := "acb7c0db89a38bbc071b1aed5c5dffe5add3959de0354083cc116e737884ba55", func := "ferryhouse/ferryhouselaw01.ShortsRise", spec := "shortsRise", apart := false, narrowed := true }
def ShortsRiseUptoSaid : Prop := shortsRiseUptoRow.holds Try.pinned (OpenSpec.upto shortsRiseSpec)

/-- 'ferryhouselaw01.ShortsGet', WHERE WHAT IT READS IS OF BULK AT MOST 1048576: true; the input reads as it did. -/
def shortsGetUptoRow : OpenClaim := { program := "ytiknpbndjnfjhaa", sum := "acb7c0db89a38bbc071b1aed5c5dffe5add3959de0354083cc116e737884ba55", func := "ferryhouse/ferryhouselaw01.ShortsGet", spec := "shortsGet", apart := false, narrowed := true }
def ShortsGetUptoSaid : Prop := shortsGetUptoRow.holds Try.pinned (OpenSpec.upto shortsGetSpec)

/-- 'ferryhouselaw01.ShortsBack', WHERE WHAT IT READS IS OF BULK AT MOST 1048576: true; the input reads as it did. -/
def shortsBackUptoRow : OpenClaim := { program := "ytiknpbndjnfjhaa", sum := "acb7c0db89a38bbc071b1aed5c5dffe5add3959de0354083cc116e737884ba55", func := "ferryhouse/ferryhouselaw01.ShortsBack", spec := "shortsBack", apart := false, narrowed := true }
def ShortsBackUptoSaid : Prop := shortsBackUptoRow.holds Try.pinned (OpenSpec.upto shortsBackSpec)

end Rows
end Go.Proofs.Ytiknpbndjnfjhaa
