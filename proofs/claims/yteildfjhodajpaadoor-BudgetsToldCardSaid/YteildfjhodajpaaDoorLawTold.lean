/- Units and a price, in whichever order, among whatever other instructions, are told, held; once more one of them is bad, and changes nothing: for every units, price, and number of others. Condition: the two package-level tables read as the program lays them, which the card ties to its text. -/
import Derived.Test.YteildfjhodajpaaDoorH
import Derived.Test.YteildfjhodajpaaDoorZ
import Derived.Test.YteildfjhodajpaaDoorRows
import Derived.Test.YteildfjhodajpaaDoorTie
import Derived.Test.YteildfjhodajpaaDoorCards
import Derived.SevenTiedAt
namespace Go.Proofs.YteildfjhodajpaaDoor.budgetsTold
open Go.ChangeShapes Go.WideShapes Go.ChangeAt Go.RowKit Go.Fer
set_option linter.all false
theorem own : ownKnob Tryd.prog.godebug = none := by kernel_rfl
theorem laidOut : laidOutB Tryd.prog = true := by kernel_rfl
theorem contract (H : Type) (enc : TypeId × Value → H) (W : World) (base : Nat) (args : Array Value) (ds gs : List (DataW H)) (before : List MemPlace)
    (hval : ∀ (j : Nat) t v, Tryd.f4.params[j]? = some t → args[j]? = some v → Value.okWide Tryd.prog W .any base t v)
    (hW : DataW.Whole enc Tryd.prog Tryd.f4.params.toList Rows.budgetsToldSpec.vars false W args.toList ds gs before)
    (hz0 : (DataW.weightsEach Tryd.prog (Tryd.f4.params.toList ++ Rows.budgetsToldSpec.plain.varTypes Tryd.prog) (ds ++ gs)).all (· ≤ reachBytes) = true) (hld : Fer.Laid W) :
    Calls Tryd.prog 4 args W fun e W' => ∃ v, e = .returned v ∧ Rows.budgetsToldSpec.post enc Tryd.prog Tryd.f4 false true false false W args v W' := by
  have hW' := hW
  obtain ⟨p, q, hA0, hV, rfl, hfz, hnd⟩ := hW
  have hA : DataW.TrodAll enc Tryd.prog W 0 (fun _ => true) true Tryd.f4.params.toList args.toList ds p := hA0
  have hB : Tryd.prog.underlying 4 = some .bool := Tryd.underlying4
  have hts : ∀ t ∈ Tryd.f4.params.toList, Tryd.prog.readableRec t = true ∧ t < Tryd.prog.types.size := by
    have h : (Tryd.f4.params.toList.all fun t => Tryd.prog.readableRec t && decide (t < Tryd.prog.types.size)) = true := by kernel_rfl
    intro t ht
    simpa using List.all_eq_true.1 h t ht
  rw [Tryd.params4] at hA hval
  obtain ⟨v0, vs0, d0, ds0, p0, q0, hargs, rfl, rfl, h0, r0⟩ := trodAll_cons hA
  obtain ⟨v1, vs1, d1, ds1, p1, q1, rfl, rfl, rfl, h1, r1⟩ := trodAll_cons r0
  obtain ⟨v2, vs2, d2, ds2, p2, q2, rfl, rfl, rfl, h2, r2⟩ := trodAll_cons r1
  obtain ⟨rfl, rfl, rfl⟩ := trodAll_nil r2
  obtain rfl : args = #[v0, v1, v2] := by cases args; simp_all
  obtain ⟨rfl, rfl⟩ := trodVars_none hV
  have hpost := fun (W' : World) (hb : Bel W W') => law_post (s := Rows.budgetsToldSpec) laidOut hts rfl hW' rfl rfl rfl rfl hB hb
  have z0 : Wt Tryd.prog 39 d0 := wt_args hz0 (i := 0) (by rw [Tryd.params4]; rfl) rfl
  have z1 : Wt Tryd.prog 34 d1 := wt_args hz0 (i := 1) (by rw [Tryd.params4]; rfl) rfl
  have z2 : Wt Tryd.prog 5 d2 := wt_args hz0 (i := 2) (by rw [Tryd.params4]; rfl) rfl
  obtain ⟨u, rfl, hu⟩ := open_u32' inferInstance (hval 0 39 v0 rfl rfl) h0
  obtain ⟨p, rfl, hp⟩ := open_u64' inferInstance (hval 1 34 v1 rfl rfl) h1
  obtain ⟨o, rfl, ho⟩ := open_u8' inferInstance (hval 2 5 v2 rfl rfl) h2
  exact calls_law (told_law W u p o hu (by omega) ho hld) hpost

set_option maxRecDepth 100000 in
theorem lifted (os : Os) (started : os.Started) (H : Type) (enc : TypeId × Value → H) :
    ReturnsInHanded {} Tryd.checked os 4 .any (fun w args => (Rows.budgetsToldSpec.pre enc Tryd.prog Tryd.f4 [] false w args ∧ laidMetH Tryd.prog laidL w) ∧ sizedMet enc Tryd.prog Tryd.f4 (OpenSpec.ofChange Rows.budgetsToldSpec) false w args) (Rows.budgetsToldSpec.post enc Tryd.prog Tryd.f4 false true false false) := by
  refine returnsInHanded_of_change_and (C := Tryd.checked) (X := fun w _ => laidMetH Tryd.prog laidL w) (fun _ _ _ hh h => h.of_heap hh) own started (by kernel_rfl) Tryd.func4
    (ChangeSpec.witness_shaped (enc := enc) (C := Tryd.checked) (os := os) (X := fun w _ => laidMetH Tryd.prog laidL w) false (World.doorLaid Tryd.prog 19 os) #[.int .u32 0, .int .u64 0, .int .u8 0] 8 rfl (World.shaped_of_RefB (by kernel_rfl) (by kernel_rfl)) (by kernel_rfl) (by kernel_rfl) (by kernel_rfl) (door_met os _)) ?_
  intro W base args ds gs before hval hW _ hz0 hL _
  exact contract H enc W base args ds gs before hval hW hz0 (of_laid hL)
theorem row_holds : Rows.BudgetsToldSaid :=
  OpenClaim.holds_of_wide 4 Tryd.f4 rfl rfl rfl rfl rfl rfl rfl ⟨rfl, rfl, rfl, rfl, rfl⟩ rfl rfl rfl rfl rfl (by kernel_rfl) Tryd.func4 (by kernel_rfl)
    (of_decide_eq_true (by kernel_rfl)) (by unfold Func.isWrapper; first | (rw [if_pos (by decide +kernel)]; kernel_rfl) | (rw [if_neg (by decide +kernel)]; exact ⟨rfl, rfl⟩))
    (fun os started H enc _ => lifted os started H enc)
end Go.Proofs.YteildfjhodajpaaDoor.budgetsTold
namespace Go.Proofs.YteildfjhodajpaaDoor
open Go.ChangeShapes Go.WideShapes Go.ChangeAt Go.RowKit
theorem budgetsTold_holds : Rows.BudgetsToldCardSaid :=
  Claim7.holds_tied_plain_at .later [] [.data, .data] true (true, "b8580d125655c9a2e04d10d64175d830dd2f49ee005e9e9428c2d434fe7e3b76") false
    budgetsTold.row_holds (fun _ h => by cases h) (by kernel_rfl) (fun _ h => by cases h) budgetsTold_row_tie rfl ⟨rfl, rfl⟩ (by kernel_rfl) rfl
    (fun f fn hf hfn => by
      obtain rfl : f = 4 := Option.some.inj ((show Tryd.prog.funcNamed "ferryhouse/ferryhouselaw08.BudgetsTold" = some 4 by kernel_rfl).symm.trans hf) |>.symm
      obtain rfl : fn = Tryd.f4 := (Option.some.inj (Tryd.func4.symm.trans hfn)).symm
      exact ⟨by kernel_rfl, fun j t ht => by
        rw [Tryd.params4] at ht
        have hm : t ∈ [39, 34, 5] := by simpa using Array.mem_of_getElem? ht
        have hall : ([39, 34, 5].all fun u => !Tryd.prog.wantsStandIn u) = true := by kernel_rfl
        exact (show Tryd.prog.wantsStandIn t = false by simpa using List.all_eq_true.1 hall t hm)⟩)
    (by kernel_rfl)
end Go.Proofs.YteildfjhodajpaaDoor
#print axioms Go.Proofs.YteildfjhodajpaaDoor.budgetsTold_holds
