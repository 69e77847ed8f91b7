/- Transactions none of which conflicts with another one, loaded all at once, run in any order, and committed in any order, have the outcomes, and leave the accounts, that they have and leave one behind the other: for all accounts, all transactions, whatever order. Condition: the package-level variable errors.errorType reads as the program lays it, which the card ties to its text. -/
import Derived.Test.YthfbfhokmknfnaaDoorP3
import Derived.Test.YthfbfhokmknfnaaDoorZ
import Derived.Test.YthfbfhokmknfnaaDoorRows
import Derived.Test.YthfbfhokmknfnaaDoorTie
import Derived.Test.YthfbfhokmknfnaaDoorCards
import Derived.SevenTiedAt
namespace Go.Proofs.YthfbfhokmknfnaaDoor.ledgersApart
open Go.ChangeShapes Go.WideShapes Go.ChangeAt Go.RowKit Go.Fer
set_option linter.all false
theorem own : ownKnob Tryd.prog.godebug = none := by kernel_rfl
theorem laidOut : laidOutB Tryd.prog = true := by kernel_rfl
set_option maxRecDepth 100000 in
theorem contract (H : Type) (enc : TypeId × Value → H) (W : World) (base : Nat) (args : Array Value) (ds gs : List (DataW H)) (before : List MemPlace)
    (hval : ∀ (j : Nat) t v, Tryd.f5.params[j]? = some t → args[j]? = some v → Value.okWide Tryd.prog W .any base t v)
    (hW : DataW.Whole enc Tryd.prog Tryd.f5.params.toList Rows.ledgersApartSpec.vars false W args.toList ds gs before)
    (hz0 : (DataW.weightsEach Tryd.prog (Tryd.f5.params.toList ++ Rows.ledgersApartSpec.plain.varTypes Tryd.prog) (ds ++ gs)).all (· ≤ reachBytes) = true) (hld : Fer.ErrLaid W) :
    Calls Tryd.prog 5 args W fun e W' => ∃ v, e = .returned v ∧ Rows.ledgersApartSpec.post enc Tryd.prog Tryd.f5 false true false false W args v W' := by
  have hW' := hW
  obtain ⟨p, q, hA0, hV, rfl, hfz, hnd⟩ := hW
  have hA : DataW.TrodAll enc Tryd.prog W 0 (fun _ => true) true Tryd.f5.params.toList args.toList ds p := hA0
  have hB : Tryd.prog.underlying 4 = some .bool := Tryd.underlying4
  have hts : ∀ t ∈ Tryd.f5.params.toList, Tryd.prog.readableRec t = true ∧ t < Tryd.prog.types.size := by
    have h : (Tryd.f5.params.toList.all fun t => Tryd.prog.readableRec t && decide (t < Tryd.prog.types.size)) = true := by kernel_rfl
    intro t ht
    simpa using List.all_eq_true.1 h t ht
  rw [Tryd.params5] at hA hval
  obtain ⟨v0, vs0, d0, ds0, p0, q0, hargs, rfl, rfl, h0, r0⟩ := trodAll_cons hA
  obtain ⟨v1, vs1, d1, ds1, p1, q1, rfl, rfl, rfl, h1, r1⟩ := trodAll_cons r0
  obtain ⟨v2, vs2, d2, ds2, p2, q2, rfl, rfl, rfl, h2, r2⟩ := trodAll_cons r1
  obtain ⟨rfl, rfl, rfl⟩ := trodAll_nil r2
  obtain rfl : args = #[v0, v1, v2] := by cases args; simp_all
  obtain ⟨rfl, rfl⟩ := trodVars_none hV
  have hpost := fun (W' : World) (hb : Bel W W') => law_post (s := Rows.ledgersApartSpec) laidOut hts rfl hW' rfl rfl rfl rfl hB hb
  have z0 : Wt Tryd.prog 22 d0 := wt_args hz0 (i := 0) (by rw [Tryd.params5]; rfl) rfl
  have z1 : Wt Tryd.prog 23 d1 := wt_args hz0 (i := 1) (by rw [Tryd.params5]; rfl) rfl
  have z2 : Wt Tryd.prog 5 d2 := wt_args hz0 (i := 2) (by rw [Tryd.params5]; rfl) rfl
  obtain ⟨l, hl, hlw⟩ := open_sl' (α := Holding) (I := Holding.ok) inferInstance rdw_Holding inferInstance (hval 0 22 v0 rfl rfl) h0
  obtain ⟨Rs, hr, _, hro⟩ := open_slZ (α := Fer.Ready) (I := Fer.Ready.okz) inferInstance rdz_Ready inferInstance inferInstance (hval 1 23 v1 rfl rfl) h1 z1
  obtain ⟨n, rfl, hn⟩ := open_u8' inferInstance (hval 2 5 v2 rfl rfl) h2
  exact calls_law (by obtain ⟨sr, rfl⟩ := hr.asV; exact apart_law W v0 sr l Rs n hn hl (fun h hh => okW_of (hlw h hh)) hr hro hld) hpost

set_option maxRecDepth 100000 in
theorem lifted (os : Os) (started : os.Started) (H : Type) (enc : TypeId × Value → H) :
    ReturnsInHanded {} Tryd.checked os 5 .any (fun w args => (Rows.ledgersApartSpec.pre enc Tryd.prog Tryd.f5 [] false w args ∧ laidMetH Tryd.prog laidL w) ∧ sizedMet enc Tryd.prog Tryd.f5 (OpenSpec.ofChange Rows.ledgersApartSpec) false w args) (Rows.ledgersApartSpec.post enc Tryd.prog Tryd.f5 false true false false) := by
  refine returnsInHanded_of_change_and (C := Tryd.checked) (X := fun w _ => laidMetH Tryd.prog laidL w) (fun _ _ _ hh h => h.of_heap hh) own started (by kernel_rfl) Tryd.func5
    (ChangeSpec.witness_at (enc := enc) (C := Tryd.checked) (os := os) (X := fun w _ => laidMetH Tryd.prog laidL w) false (laidWorld os) #[.slice none 0 0, .slice none 0 0, .int .u8 0] 8 rfl (by kernel_rfl) (by kernel_rfl) (by kernel_rfl) (by kernel_rfl) (by kernel_rfl) (laidWorld_met os _)) ?_
  intro W base args ds gs before hval hW _ hz0 hL _
  exact contract H enc W base args ds gs before hval hW hz0 (err_of_laid hL)
theorem row_holds : Rows.LedgersApartSaid :=
  OpenClaim.holds_of_wide 5 Tryd.f5 rfl rfl rfl rfl rfl rfl rfl ⟨rfl, rfl, rfl, rfl, rfl⟩ rfl rfl rfl rfl rfl (by kernel_rfl) Tryd.func5 (by kernel_rfl)
    (of_decide_eq_true (by kernel_rfl)) (by unfold Func.isWrapper; first | (rw [if_pos (by decide +kernel)]; kernel_rfl) | (rw [if_neg (by decide +kernel)]; exact ⟨rfl, rfl⟩))
    (fun os started H enc _ => lifted os started H enc)
end Go.Proofs.YthfbfhokmknfnaaDoor.ledgersApart
namespace Go.Proofs.YthfbfhokmknfnaaDoor
open Go.ChangeShapes Go.WideShapes Go.ChangeAt Go.RowKit
theorem ledgersApart_holds : Rows.LedgersApartCardSaid :=
  Claim7.holds_tied_plain_at .later [] [.handle] true (true, "a20de856dafc6e8c33fa7c4ba513c8505daf02d486c6f649caac7b245271d592") true
    ledgersApart.row_holds (fun _ h => by cases h) (by kernel_rfl) (fun _ h => by cases h) ledgersApart_row_tie rfl ⟨rfl, rfl⟩ (by kernel_rfl) rfl
    (fun f fn hf hfn => by
      obtain rfl : f = 5 := Option.some.inj ((show Tryd.prog.funcNamed "ferryhouse/ferryhouselaw16.LedgersApart" = some 5 by kernel_rfl).symm.trans hf) |>.symm
      obtain rfl : fn = Tryd.f5 := (Option.some.inj (Tryd.func5.symm.trans hfn)).symm
      exact ⟨by kernel_rfl, fun j t ht => by
        rw [Tryd.params5] at ht
        have hm : t ∈ [22, 23, 5] := by simpa using Array.mem_of_getElem? ht
        have hall : ([22, 23, 5].all fun u => !Tryd.prog.wantsStandIn u) = true := by kernel_rfl
        exact (show Tryd.prog.wantsStandIn t = false by simpa using List.all_eq_true.1 hall t hm)⟩)
    (by kernel_rfl)
end Go.Proofs.YthfbfhokmknfnaaDoor
#print axioms Go.Proofs.YthfbfhokmknfnaaDoor.ledgersApart_holds
