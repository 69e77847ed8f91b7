/- The two package-level tables, read as the row lays them; the door's own heap. No condition. -/
import Derived.Test.YteildfjhodajpaaDoorE
import Derived.Test.YteildfjhodajpaaDoorRows
import Derived.ProofKit
import Derived.LaidMore
import Derived.OpenShut
import Derived.Stop.Joined
set_option linter.all false
namespace Go.Proofs.YteildfjhodajpaaDoor
open Go.ChangeShapes Go.WideShapes Go.ChangeAt Go.WideMaps Go.WideElems Go.RowKit
abbrev laidL : List (String × DataW Unit) := [("ferryhouse/budgets.long", Rows.laid_ferryhouse_budgets_long), ("ferryhouse/budgets.tags", Rows.laid_ferryhouse_budgets_tags)]
theorem gLong : Tryd.prog.globalNamed "ferryhouse/budgets.long" = some 0 := by kernel_rfl
theorem gTags : Tryd.prog.globalNamed "ferryhouse/budgets.tags" = some 1 := by kernel_rfl
theorem tLong : (Tryd.prog.globals[0]?).map (·.type) = some 67 := by kernel_rfl
theorem tTags : (Tryd.prog.globals[1]?).map (·.type) = some 68 := by kernel_rfl
theorem two_of {k : IntKind} {e : TypeId} {W : World} {m : Nat} {a b : Int} (hu : Tryd.prog.underlying e = some (.int k)) {l : List Value} {xs : List (DataW Unit × List MemPlace)} (hl : l.length = 2) (hn : xs.length = 2) (c1 : Tryd.prog.cellsOf e = 1)
    (hel : ∀ (i : Nat), i < 2 → DataW.trod (fun _ => ()) Tryd.prog W 0 (fun _ => true) false m e ((l.drop (i * Tryd.prog.cellsOf e)).take (Tryd.prog.cellsOf e)) = xs[i]?)
    (hx : DataW.agg [.lit (.int k a), .lit (.int k b)] = DataW.agg (xs.map fun x => x.fst)) : l = [.int k a, .int k b] := by
  have h0 := hel 0 (by decide)
  have h1 := hel 1 (by decide)
  rw [c1] at h0 h1
  match l, hl, xs, hn with
  | [u0, u1], _, [x0, x1], _ =>
    have h0 : DataW.trod (fun _ => ()) Tryd.prog W 0 (fun _ => true) false m e [u0] = some x0 := h0
    have h1 : DataW.trod (fun _ => ()) Tryd.prog W 0 (fun _ => true) false m e [u1] = some x1 := h1
    obtain ⟨a', e1, e2, _⟩ := DataW.trod_int hu h0
    obtain ⟨b', e3, e4, _⟩ := DataW.trod_int hu h1
    subst e2; subst e4
    simp only [List.map_cons, List.map_nil, DataW.agg.injEq, List.cons.injEq, DataW.lit.injEq, Lit.int.injEq, true_and, and_true] at hx
    obtain ⟨rfl, rfl⟩ := hx
    simp only [List.cons.injEq, and_true] at e1 e3
    rw [e1, e3]
theorem of_laid {W : World} (h : laidMetH Tryd.prog laidL W) : Fer.Laid W := by
  rw [MakeChecks.laidMetH_plain _ _ _ (by kernel_rfl)] at h
  obtain ⟨ps, ⟨g0, t0, cs0, f0, p0, q0, hg0, ht0, hv0, hd0, ⟨g1, t1, cs1, f1, p1, q1, hg1, ht1, hv1, hd1, _, _⟩, _⟩, _, _⟩ := h
  obtain rfl := Option.some.inj (gLong.symm.trans hg0)
  obtain rfl := Option.some.inj (gTags.symm.trans hg1)
  obtain rfl := Option.some.inj (tLong.symm.trans ht0)
  obtain rfl := Option.some.inj (tTags.symm.trans ht1)
  obtain ⟨xs, m1, rfl, hx1, hlen, hn3, hel⟩ := DataW.trod_array Tryd.underlying67 hd0
  obtain ⟨ys, m2, rfl, hy1, hlen2, hn4, hel2⟩ := DataW.trod_array Tryd.underlying68 hd1
  simp only [Prod.mk.injEq] at hx1 hy1
  have l1 := two_of Tryd.underlying3 (hlen.trans (by kernel_rfl)) hn3 (by kernel_rfl) hel hx1.1
  have l2 := two_of Tryd.underlying5 (hlen2.trans (by kernel_rfl)) hn4 (by kernel_rfl) hel2 hy1.1
  refine ⟨⟨0, 0, rfl, fun j u hu => ?_⟩, ⟨1, 0, rfl, fun j u hu => ?_⟩⟩
  · rw [Nat.zero_add, World.var?_cell hg0 hv0 j, ← hu, ← Array.getElem?_toList, l1, ← Array.getElem?_toList]; rfl
  · rw [Nat.zero_add, World.var?_cell hg1 hv1 j, ← hu, ← Array.getElem?_toList, l2, ← Array.getElem?_toList]; rfl
theorem door_met (os : Os) (args : Array Value) : laidMetH Tryd.prog laidL ((World.doorLaid Tryd.prog 19 os).forCall (fun _ _ => 0) ⟨#[], args, []⟩).memory :=
  laidMetH_of_parts3 (fuel := 8) (laidMet_of_run' 8 (by kernel_rfl) (by kernel_rfl)) (by kernel_rfl) (by kernel_rfl)
end Go.Proofs.YteildfjhodajpaaDoor
