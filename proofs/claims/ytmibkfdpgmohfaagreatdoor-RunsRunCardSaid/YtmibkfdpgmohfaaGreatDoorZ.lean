/- The package-level variable errors.errorType, read as the row lays it; a world that meets it. No condition. -/
import Derived.Test.YtmibkfdpgmohfaaGreatDoorK4
import Derived.Test.YtmibkfdpgmohfaaGreatDoorRows
import Derived.ChangeSame
import Derived.ChangeVars
import Derived.JoinedOf
import Derived.RowKit
import Derived.RowKitTokens
import Derived.LaidLaws
import Derived.LaidHandle
import Derived.Stop.Joined
set_option linter.all false
namespace Go.Proofs.YtmibkfdpgmohfaaGreatDoor
open Go.ChangeShapes Go.WideShapes Go.RowKit

theorem glob : Tryz.prog.globalNamed "errors.errorType" = some 0 := by kernel_rfl
theorem rtT : (Tryz.prog.cutTypes.find? (·.1 == "internal/reflectlite.rtype")).map (·.2) = some 155 := by kernel_rfl
theorem oneRow : ((List.range 224).filter fun t => Tryz.prog.rowNamed t [101, 114, 114, 111, 114]) = [86] := by kernel_rfl
theorem ntypes : Tryz.prog.types.size = 224 := by kernel_rfl
abbrev laidL {H : Type} : List (String × DataW H) := [("errors.errorType", Rows.laid_errors_errorType)]
theorem err_of_laid {W : World} (h : laidMetH Tryz.prog laidL W) : Fer.ErrLaid W := by
  have h' : laidMet Tryz.prog [] W ∧ handlesMet Tryz.prog laidL W := h
  obtain ⟨name, u, ty, e1, e2, e3, e4, e5⟩ := h'.2 _ (List.mem_singleton.2 rfl)
  have en : name = [101, 114, 114, 111, 114] := (Option.some.inj e1).symm
  subst en
  obtain rfl := Option.some.inj (rtT.symm.trans e2)
  have hm : ty ∈ (List.range 224).filter fun t => Tryz.prog.rowNamed t [101, 114, 114, 111, 114] := List.mem_filter.2 ⟨List.mem_range.2 (by rw [← ntypes]; exact e3), e4⟩
  rw [oneRow] at hm
  obtain rfl := List.mem_singleton.1 hm
  have hh : typeHandle Tryz.prog 86 = .pointer (some ⟨1, 86, none⟩) := by kernel_rfl
  rw [hh] at e5
  unfold Fer.ErrLaid
  simpa using World.var?_cell glob e5 0
noncomputable def laidWorld (os : Os) : World :=
  let w0 := World.holding Tryz.prog os ⟨#[], #[], []⟩
  { w0 with heap := w0.heap.modify 0 fun
      | .cells _ t frozen => .cells #[.iface 155 (.agg #[.pointer (some ⟨1, 86, none⟩)])] t frozen
      | o => o }
theorem laidWorld_met (os : Os) (args : Array Value) : laidMetH Tryz.prog laidL ((laidWorld os).forCall (fun _ _ => 0) ⟨#[], args, []⟩).memory :=
  laidMetH_of_parts (laidMet_nil _ _) (by kernel_rfl)
end Go.Proofs.YtmibkfdpgmohfaaGreatDoor
