/- Whatever is asked and added, by whatever limits, each answer, and all sums, are as in the document; the keys stay as they were: for all limits, every list of what is asked, and every key. No condition. -/
import Derived.Test.YtinclpfoiljioaaS
import Derived.Test.YtinclpfoiljioaaRows
namespace Go.Proofs.Ytinclpfoiljioaa.trackersPlay
open Go.ChangeShapes Go.WideShapes Go.ChangeAt Go.RowKit Go.Fer
set_option linter.all false
theorem own : ownKnob Try.prog.godebug = none := by kernel_rfl
theorem laidOut : laidOutB Try.prog = true := by kernel_rfl
theorem contract (H : Type) (enc : TypeId × Value → H) (W : World) (base : Nat) (args : Array Value) (ds gs : List (DataW H)) (before : List MemPlace)
    (hval : ∀ (j : Nat) t v, Try.f3.params[j]? = some t → args[j]? = some v → Value.okWide Try.prog W .any base t v)
    (hW : DataW.Whole enc Try.prog Try.f3.params.toList Rows.trackersPlaySpec.vars false W args.toList ds gs before)
    (hz0 : (DataW.weightsEach Try.prog (Try.f3.params.toList ++ Rows.trackersPlaySpec.plain.varTypes Try.prog) (ds ++ gs)).all (· ≤ reachBytes) = true) :
    Calls Try.prog 3 args W fun e W' => ∃ v, e = .returned v ∧ Rows.trackersPlaySpec.post enc Try.prog Try.f3 false true false false W args v W' := by
  have hW' := hW
  obtain ⟨p, q, hA0, hV, rfl, hfz, hnd⟩ := hW
  have hA : DataW.TrodAll enc Try.prog W 0 (fun _ => true) true Try.f3.params.toList args.toList ds p := hA0
  have hB : Try.prog.underlying 4 = some .bool := Try.underlying4
  have hts : ∀ t ∈ Try.f3.params.toList, Try.prog.readableRec t = true ∧ t < Try.prog.types.size := by
    have h : (Try.f3.params.toList.all fun t => Try.prog.readableRec t && decide (t < Try.prog.types.size)) = true := by kernel_rfl
    intro t ht
    simpa using List.all_eq_true.1 h t ht
  rw [Try.params3] at hA hval
  obtain ⟨v0, vs0, d0, ds0, p0, q0, hargs, rfl, rfl, h0, r0⟩ := trodAll_cons hA
  obtain ⟨v1, vs1, d1, ds1, p1, q1, rfl, rfl, rfl, h1, r1⟩ := trodAll_cons r0
  obtain ⟨v2, vs2, d2, ds2, p2, q2, rfl, rfl, rfl, h2, r2⟩ := trodAll_cons r1
  obtain ⟨rfl, rfl, rfl⟩ := trodAll_nil r2
  obtain rfl : args = #[v0, v1, v2] := by cases args; simp_all
  obtain ⟨rfl, rfl⟩ := trodVars_none hV
  have hpost := fun (W' : World) (hb : Bel W W') => law_post (s := Rows.trackersPlaySpec) laidOut hts rfl hW' rfl rfl rfl rfl hB hb
  have z0 : Wt Try.prog 24 d0 := wt_args hz0 (i := 0) (by rw [Try.params3]; rfl) rfl
  have z1 : Wt Try.prog 25 d1 := wt_args hz0 (i := 1) (by rw [Try.params3]; rfl) rfl
  have z2 : Wt Try.prog 27 d2 := wt_args hz0 (i := 2) (by rw [Try.params3]; rfl) rfl
  obtain ⟨mx, rfl, hmx⟩ := open_S rdw_Limits inferInstance (hval 0 24 v0 rfl rfl) h0
  obtain ⟨xs, hx, _, hxo⟩ := open_slZ (α := Fer.Asked) (I := Fer.Asked.okz) inferInstance rdz_Asked inferInstance inferInstance (hval 1 25 v1 rfl rfl) h1 z1
  obtain ⟨ky, rfl, _⟩ := open_agg' (α := Vector UInt8 32) (I := fun _ _ => True) inferInstance rdw_vec (hval 2 27 v2 rfl rfl) h2
  exact calls_law (play_law W mx v1 xs ky hmx hx hxo) hpost

set_option maxRecDepth 100000 in
theorem lifted (os : Os) (started : os.Started) (H : Type) (enc : TypeId × Value → H) :
    ReturnsInHanded {} Try.checked os 3 .any (Rows.trackersPlaySpec.pre6 enc Try.prog Try.f3 Rows.trackersPlayRow.domain false) (Rows.trackersPlaySpec.post enc Try.prog Try.f3 false true false false) := by
  refine returnsInHanded_of_change_sized (C := Try.checked) own started (by kernel_rfl) Try.func3
    (ChangeSpec.witness6 (enc := enc) (C := Try.checked) false ⟨#[], #[.agg #[.int .u64 0, .int .u64 0, .int .u64 0], .slice none 0 0, .agg #[.int .u8 0, .int .u8 0, .int .u8 0, .int .u8 0, .int .u8 0, .int .u8 0, .int .u8 0, .int .u8 0, .int .u8 0, .int .u8 0, .int .u8 0, .int .u8 0, .int .u8 0, .int .u8 0, .int .u8 0, .int .u8 0, .int .u8 0, .int .u8 0, .int .u8 0, .int .u8 0, .int .u8 0, .int .u8 0, .int .u8 0, .int .u8 0, .int .u8 0, .int .u8 0, .int .u8 0, .int .u8 0, .int .u8 0, .int .u8 0, .int .u8 0, .int .u8 0]], []⟩ 8 (by kernel_rfl) (by kernel_rfl) (by kernel_rfl) (by kernel_rfl)) ?_
  intro W base args ds gs before hval hW _ hz0 _
  exact contract H enc W base args ds gs before hval hW hz0
end Go.Proofs.Ytinclpfoiljioaa.trackersPlay
namespace Go.Proofs.Ytinclpfoiljioaa
open Go.ChangeShapes Go.WideShapes Go.ChangeAt Go.RowKit
theorem trackersPlay_holds : Rows.TrackersPlaySaid :=
  OpenClaim.holds_of_wide 3 Try.f3 rfl rfl rfl rfl rfl rfl rfl ⟨rfl, rfl, rfl, rfl, rfl⟩ rfl rfl rfl rfl rfl (by kernel_rfl) Try.func3 (by kernel_rfl)
    (of_decide_eq_true (by kernel_rfl)) (by unfold Func.isWrapper; rw [if_neg (of_decide_eq_false (by kernel_rfl))]; exact ⟨rfl, rfl⟩)
    (fun os started H enc _ => trackersPlay.lifted os started H enc)
end Go.Proofs.Ytinclpfoiljioaa
#print axioms Go.Proofs.Ytinclpfoiljioaa.trackersPlay_holds
