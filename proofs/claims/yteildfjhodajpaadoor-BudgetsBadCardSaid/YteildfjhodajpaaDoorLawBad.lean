/- What a bad word, and all words behind it, would tell changes nothing; so they may have any data: for every message and bytes. Condition: the two package-level tables read as the program lays them, which the card ties to its text. -/
import Derived.Test.YteildfjhodajpaaDoorG
import Derived.Test.YteildfjhodajpaaDoorZ
import Derived.Test.YteildfjhodajpaaDoorRows
import Derived.Test.YteildfjhodajpaaDoorTie
import Derived.Test.YteildfjhodajpaaDoorCards
import Derived.SevenTiedAt
namespace Go.Proofs.YteildfjhodajpaaDoor.budgetsBad
open Go.ChangeShapes Go.WideShapes Go.ChangeAt Go.RowKit Go.Fer
set_option linter.all false
theorem own : ownKnob Tryd.prog.godebug = none := by kernel_rfl
theorem laidOut : laidOutB Tryd.prog = true := by kernel_rfl
theorem contract (H : Type) (enc : TypeId × Value → H) (W : World) (base : Nat) (args : Array Value) (ds gs : List (DataW H)) (before : List MemPlace)
    (hval : ∀ (j : Nat) t v, Tryd.f5.params[j]? = some t → args[j]? = some v → Value.okWide Tryd.prog W .any base t v)
    (hW : DataW.Whole enc Tryd.prog Tryd.f5.params.toList Rows.budgetsBadSpec.vars false W args.toList ds gs before)
    (hz0 : (DataW.weightsEach Tryd.prog (Tryd.f5.params.toList ++ Rows.budgetsBadSpec.plain.varTypes Tryd.prog) (ds ++ gs)).all (· ≤ reachBytes) = true) (hld : Fer.Laid W) :
    Calls Tryd.prog 5 args W fun e W' => ∃ v, e = .returned v ∧ Rows.budgetsBadSpec.post enc Tryd.prog Tryd.f5 false true false false W args v W' := by
  have hW' := hW
  obtain ⟨p, q, hA0, hV, rfl, hfz, hnd⟩ := hW
  have hA : DataW.TrodAll enc Tryd.prog W 0 (fun _ => true) true Tryd.f5.params.toList args.toList ds p := hA0
  have hB : Tryd.prog.underlying 4 = some .bool := Tryd.underlying4
  have hts : ∀ t ∈ Tryd.f5.params.toList, Tryd.prog.readableRec t = true ∧ t < Tryd.prog.types.size := by
    have h : (Tryd.f5.params.toList.all fun t => Tryd.prog.readableRec t && decide (t < Tryd.prog.types.size)) = true := by kernel_rfl
    intro t ht
    simpa using List.all_eq_true.1 h t ht
  rw [Tryd.params5] at hA hval
  obtain ⟨v0, vs0, d0, ds0, p0, q0, hargs, rfl, rfl, h0, r0⟩ := trodAll_cons hA
  obtain ⟨v1, vs1, d1, ds1, p1, q1, rfl, rfl, rfl, h1, r1⟩ := trodAll_cons r0
  obtain ⟨rfl, rfl, rfl⟩ := trodAll_nil r1
  obtain rfl : args = #[v0, v1] := by cases args; simp_all
  obtain ⟨rfl, rfl⟩ := trodVars_none hV
  have hpost := fun (W' : World) (hb : Bel W W') => law_post (s := Rows.budgetsBadSpec) laidOut hts rfl hW' rfl rfl rfl rfl hB hb
  have z0 : Wt Tryd.prog 30 d0 := wt_args hz0 (i := 0) (by rw [Tryd.params5]; rfl) rfl
  have z1 : Wt Tryd.prog 40 d1 := wt_args hz0 (i := 1) (by rw [Tryd.params5]; rfl) rfl
  obtain ⟨m, rfl, hm⟩ := open_SZ rdz_Message inferInstance (hval 0 30 v0 rfl rfl) h0 z0
  obtain ⟨bs, hbs, _⟩ := open_sl' (α := UInt8) (I := fun _ _ => True) inferInstance rdw_u8 inferInstance (hval 1 40 v1 rfl rfl) h1
  exact calls_law (by obtain ⟨sd, rfl⟩ := hbs.asV; exact bad_law W m sd bs hm hbs hld) hpost

set_option maxRecDepth 100000 in
theorem lifted (os : Os) (started : os.Started) (H : Type) (enc : TypeId × Value → H) :
    ReturnsInHanded {} Tryd.checked os 5 .any (fun w args => (Rows.budgetsBadSpec.pre enc Tryd.prog Tryd.f5 [] false w args ∧ laidMetH Tryd.prog laidL w) ∧ sizedMet enc Tryd.prog Tryd.f5 (OpenSpec.ofChange Rows.budgetsBadSpec) false w args) (Rows.budgetsBadSpec.post enc Tryd.prog Tryd.f5 false true false false) := by
  refine returnsInHanded_of_change_and (C := Tryd.checked) (X := fun w _ => laidMetH Tryd.prog laidL w) (fun _ _ _ hh h => h.of_heap hh) own started (by kernel_rfl) Tryd.func5
    (ChangeSpec.witness_shaped (enc := enc) (C := Tryd.checked) (os := os) (X := fun w _ => laidMetH Tryd.prog laidL w) false (World.doorLaid Tryd.prog 19 os) #[.agg #[.bool false, .int .u8 0, .int .u8 0, .int .u8 0, .slice none 0 0, .int .u8 0, .int .u8 0, .int .u8 0, .int .u8 0, .int .u8 0, .int .u8 0, .int .u8 0, .int .u8 0, .int .u8 0, .int .u8 0, .int .u8 0, .int .u8 0, .int .u8 0, .int .u8 0, .int .u8 0, .int .u8 0, .int .u8 0, .int .u8 0, .int .u8 0, .int .u8 0, .int .u8 0, .int .u8 0, .int .u8 0, .int .u8 0, .int .u8 0, .int .u8 0, .int .u8 0, .int .u8 0, .int .u8 0, .int .u8 0, .int .u8 0, .int .u8 0, .slice none 0 0, .slice none 0 0], .slice none 0 0] 8 rfl (World.shaped_of_RefB (by kernel_rfl) (by kernel_rfl)) (by kernel_rfl) (by kernel_rfl) (by kernel_rfl) (door_met os _)) ?_
  intro W base args ds gs before hval hW _ hz0 hL _
  exact contract H enc W base args ds gs before hval hW hz0 (of_laid hL)
theorem row_holds : Rows.BudgetsBadSaid :=
  OpenClaim.holds_of_wide 5 Tryd.f5 rfl rfl rfl rfl rfl rfl rfl ⟨rfl, rfl, rfl, rfl, rfl⟩ rfl rfl rfl rfl rfl (by kernel_rfl) Tryd.func5 (by kernel_rfl)
    (of_decide_eq_true (by kernel_rfl)) (by unfold Func.isWrapper; first | (rw [if_pos (by decide +kernel)]; kernel_rfl) | (rw [if_neg (by decide +kernel)]; exact ⟨rfl, rfl⟩))
    (fun os started H enc _ => lifted os started H enc)
end Go.Proofs.YteildfjhodajpaaDoor.budgetsBad
namespace Go.Proofs.YteildfjhodajpaaDoor
open Go.ChangeShapes Go.WideShapes Go.ChangeAt Go.RowKit
theorem budgetsBad_holds : Rows.BudgetsBadCardSaid :=
  Claim7.holds_tied_plain_at .later [] [.data, .data] true (true, "b8580d125655c9a2e04d10d64175d830dd2f49ee005e9e9428c2d434fe7e3b76") false
    budgetsBad.row_holds (fun _ h => by cases h) (by kernel_rfl) (fun _ h => by cases h) budgetsBad_row_tie rfl ⟨rfl, rfl⟩ (by kernel_rfl) rfl
    (fun f fn hf hfn => by
      obtain rfl : f = 5 := Option.some.inj ((show Tryd.prog.funcNamed "ferryhouse/ferryhouselaw08.BudgetsBad" = some 5 by kernel_rfl).symm.trans hf) |>.symm
      obtain rfl : fn = Tryd.f5 := (Option.some.inj (Tryd.func5.symm.trans hfn)).symm
      exact ⟨by kernel_rfl, fun j t ht => by
        rw [Tryd.params5] at ht
        have hm : t ∈ [30, 40] := by simpa using Array.mem_of_getElem? ht
        have hall : ([30, 40].all fun u => !Tryd.prog.wantsStandIn u) = true := by kernel_rfl
        exact (show Tryd.prog.wantsStandIn t = false by simpa using List.all_eq_true.1 hall t hm)⟩)
    (by kernel_rfl)
end Go.Proofs.YteildfjhodajpaaDoor
#print axioms Go.Proofs.YteildfjhodajpaaDoor.budgetsBad_holds
