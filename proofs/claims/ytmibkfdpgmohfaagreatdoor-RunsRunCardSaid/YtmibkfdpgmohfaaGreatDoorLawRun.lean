/- What comes of any transaction, whatever accounts are loaded, is as in the document, in new memory, or refused; accounts and transaction stay: for every transaction and accounts. Condition: the package-level variable errors.errorType reads as the program lays it, which the card ties to its text. -/
import Derived.Test.YtmibkfdpgmohfaaGreatDoorV
import Derived.Test.YtmibkfdpgmohfaaGreatDoorZ
import Derived.Test.YtmibkfdpgmohfaaGreatDoorRows
import Derived.Test.YtmibkfdpgmohfaaGreatDoorTie
import Derived.Test.YtmibkfdpgmohfaaGreatDoorCards
import Derived.SevenTiedAt
namespace Go.Proofs.YtmibkfdpgmohfaaGreatDoor.runsRun
open Go.ChangeShapes Go.WideShapes Go.ChangeAt Go.RowKit Go.Fer
set_option linter.all false
theorem own : ownKnob Tryz.prog.godebug = none := by kernel_rfl
theorem laidOut : laidOutB Tryz.prog = true := by kernel_rfl
set_option maxRecDepth 100000 in
theorem contract (H : Type) (enc : TypeId × Value → H) (W : World) (base : Nat) (args : Array Value) (ds gs : List (DataW H)) (before : List MemPlace)
    (hval : ∀ (j : Nat) t v, Tryz.f3.params[j]? = some t → args[j]? = some v → Value.okWide Tryz.prog W .any base t v)
    (hW : DataW.Whole enc Tryz.prog Tryz.f3.params.toList Rows.runsRunSpec.vars false W args.toList ds gs before)
    (hz0 : (DataW.weightsEach Tryz.prog (Tryz.f3.params.toList ++ Rows.runsRunSpec.plain.varTypes Tryz.prog) (ds ++ gs)).all (· ≤ reachBytes) = true) (hld : Fer.ErrLaid W) :
    Calls Tryz.prog 3 args W fun e W' => ∃ v, e = .returned v ∧ Rows.runsRunSpec.post enc Tryz.prog Tryz.f3 false true false false W args v W' := by
  have hW' := hW
  obtain ⟨p, q, hA0, hV, rfl, hfz, hnd⟩ := hW
  have hA : DataW.TrodAll enc Tryz.prog W 0 (fun _ => true) true Tryz.f3.params.toList args.toList ds p := hA0
  have hB : Tryz.prog.underlying 4 = some .bool := Tryz.underlying4
  have hts : ∀ t ∈ Tryz.f3.params.toList, Tryz.prog.readableRec t = true ∧ t < Tryz.prog.types.size := by
    have h : (Tryz.f3.params.toList.all fun t => Tryz.prog.readableRec t && decide (t < Tryz.prog.types.size)) = true := by kernel_rfl
    intro t ht
    simpa using List.all_eq_true.1 h t ht
  rw [Tryz.params3] at hA hval
  obtain ⟨v0, vs0, d0, ds0, p0, q0, hargs, rfl, rfl, h0, r0⟩ := trodAll_cons hA
  obtain ⟨v1, vs1, d1, ds1, p1, q1, rfl, rfl, rfl, h1, r1⟩ := trodAll_cons r0
  obtain ⟨rfl, rfl, rfl⟩ := trodAll_nil r1
  obtain rfl : args = #[v0, v1] := by cases args; simp_all
  obtain ⟨rfl, rfl⟩ := trodVars_none hV
  have hpost := fun (W' : World) (hb : Bel W W') => law_post (s := Rows.runsRunSpec) laidOut hts rfl hW' rfl rfl rfl rfl hB hb
  have z0 : Wt Tryz.prog 40 d0 := wt_args hz0 (i := 0) (by rw [Tryz.params3]; rfl) rfl
  have z1 : Wt Tryz.prog 41 d1 := wt_args hz0 (i := 1) (by rw [Tryz.params3]; rfl) rfl
  obtain ⟨R, rfl, hR⟩ := open_SZ rdz_Ready inferInstance (hval 0 40 v0 rfl rfl) h0 z0
  obtain ⟨l, hl, hlw⟩ := open_sl' (α := Account) (I := Account.ok) inferInstance rdw_Account inferInstance (hval 1 41 v1 rfl rfl) h1
  exact calls_law (by obtain ⟨sl, rfl⟩ := hl.asV; exact run_law W R sl l hR hl (fun y hy => okW_of (hlw y hy)) hld) hpost

set_option maxRecDepth 100000 in
theorem lifted (os : Os) (started : os.Started) (H : Type) (enc : TypeId × Value → H) :
    ReturnsInHanded {} Tryz.checked os 3 .any (fun w args => (Rows.runsRunSpec.pre enc Tryz.prog Tryz.f3 [] false w args ∧ laidMetH Tryz.prog laidL w) ∧ sizedMet enc Tryz.prog Tryz.f3 (OpenSpec.ofChange Rows.runsRunSpec) false w args) (Rows.runsRunSpec.post enc Tryz.prog Tryz.f3 false true false false) := by
  refine returnsInHanded_of_change_and (C := Tryz.checked) (X := fun w _ => laidMetH Tryz.prog laidL w) (fun _ _ _ hh h => h.of_heap hh) own started (by kernel_rfl) Tryz.func3
    (ChangeSpec.witness_at (enc := enc) (C := Tryz.checked) (os := os) (X := fun w _ => laidMetH Tryz.prog laidL w) false (laidWorld os) #[.agg #[.slice none 0 0, .slice none 0 0, .bool false, .int .u8 0, .int .u8 0, .int .u8 0, .slice none 0 0, .int .u8 0, .int .u8 0, .int .u8 0, .int .u8 0, .int .u8 0, .int .u8 0, .int .u8 0, .int .u8 0, .int .u8 0, .int .u8 0, .int .u8 0, .int .u8 0, .int .u8 0, .int .u8 0, .int .u8 0, .int .u8 0, .int .u8 0, .int .u8 0, .int .u8 0, .int .u8 0, .int .u8 0, .int .u8 0, .int .u8 0, .int .u8 0, .int .u8 0, .int .u8 0, .int .u8 0, .int .u8 0, .int .u8 0, .int .u8 0, .int .u8 0, .int .u8 0, .slice none 0 0, .slice none 0 0, .slice none 0 0, .int .u64 0, .int .u64 0, .int .i64 0, .int .u64 0, .int .u64 0, .int .u64 0], .slice none 0 0] 8 rfl (by kernel_rfl) (by kernel_rfl) (by kernel_rfl) (by kernel_rfl) (by kernel_rfl) (laidWorld_met os _)) ?_
  intro W base args ds gs before hval hW _ hz0 hL _
  exact contract H enc W base args ds gs before hval hW hz0 (err_of_laid hL)
theorem row_holds : Rows.RunsRunSaid :=
  OpenClaim.holds_of_wide 3 Tryz.f3 rfl rfl rfl rfl rfl rfl rfl ⟨rfl, rfl, rfl, rfl, rfl⟩ rfl rfl rfl rfl rfl (by kernel_rfl) Tryz.func3 (by kernel_rfl)
    (of_decide_eq_true (by kernel_rfl)) (by unfold Func.isWrapper; first | (rw [if_pos (by decide +kernel)]; kernel_rfl) | (rw [if_neg (by decide +kernel)]; exact ⟨rfl, rfl⟩))
    (fun os started H enc _ => lifted os started H enc)
end Go.Proofs.YtmibkfdpgmohfaaGreatDoor.runsRun
namespace Go.Proofs.YtmibkfdpgmohfaaGreatDoor
open Go.ChangeShapes Go.WideShapes Go.ChangeAt Go.RowKit
theorem runsRun_holds : Rows.RunsRunCardSaid :=
  Claim7.holds_tied_plain_at .later [] [.handle] true (true, "ef2f5c004821efcf4469527241da09c61513ed68cc5e4dc2fc074a841bb9507d") true
    runsRun.row_holds (fun _ h => by cases h) (by kernel_rfl) (fun _ h => by cases h) runsRun_row_tie rfl ⟨rfl, rfl⟩ (by kernel_rfl) rfl
    (fun f fn hf hfn => by
      obtain rfl : f = 3 := Option.some.inj ((show Tryz.prog.funcNamed "ferryhouse/ferryhouselaw15.RunsRun" = some 3 by kernel_rfl).symm.trans hf) |>.symm
      obtain rfl : fn = Tryz.f3 := (Option.some.inj (Tryz.func3.symm.trans hfn)).symm
      exact ⟨by kernel_rfl, fun j t ht => by
        rw [Tryz.params3] at ht
        have hm : t ∈ [40, 41] := by simpa using Array.mem_of_getElem? ht
        have hall : ([40, 41].all fun u => !Tryz.prog.wantsStandIn u) = true := by kernel_rfl
        exact (show Tryz.prog.wantsStandIn t = false by simpa using List.all_eq_true.1 hall t hm)⟩)
    (by kernel_rfl)
end Go.Proofs.YtmibkfdpgmohfaaGreatDoor
#print axioms Go.Proofs.YtmibkfdpgmohfaaGreatDoor.runsRun_holds
