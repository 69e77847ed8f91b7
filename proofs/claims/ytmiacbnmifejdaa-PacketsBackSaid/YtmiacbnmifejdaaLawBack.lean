/- What is put is got, whatever stands behind it; with a byte more it is too long or no whole packet, cut anywhere it ends too soon: for every transaction, bytes behind it, and place of the cut. No condition. -/
import Derived.Test.YtmiacbnmifejdaaPS
import Derived.Test.YtmiacbnmifejdaaRows
namespace Go.Proofs.Ytmiacbnmifejdaa.packetsBack
open Go.ChangeShapes Go.WideShapes Go.ChangeAt Go.RowKit Go.Fer
set_option linter.all false
theorem own : ownKnob Try.prog.godebug = none := by kernel_rfl
theorem laidOut : laidOutB Try.prog = true := by kernel_rfl
set_option maxRecDepth 100000 in
theorem contract (H : Type) (enc : TypeId × Value → H) (W : World) (base : Nat) (args : Array Value) (ds gs : List (DataW H)) (before : List MemPlace)
    (hval : ∀ (j : Nat) t v, Try.f5.params[j]? = some t → args[j]? = some v → Value.okWide Try.prog W .any base t v)
    (hW : DataW.Whole enc Try.prog Try.f5.params.toList Rows.packetsBackSpec.vars false W args.toList ds gs before)
    (hz0 : (DataW.weightsEach Try.prog (Try.f5.params.toList ++ Rows.packetsBackSpec.plain.varTypes Try.prog) (ds ++ gs)).all (· ≤ reachBytes) = true) :
    Calls Try.prog 5 args W fun e W' => ∃ v, e = .returned v ∧ Rows.packetsBackSpec.post enc Try.prog Try.f5 false true false false W args v W' := by
  have hW' := hW
  obtain ⟨p, q, hA0, hV, rfl, hfz, hnd⟩ := hW
  have hA : DataW.TrodAll enc Try.prog W 0 (fun _ => true) true Try.f5.params.toList args.toList ds p := hA0
  have hB : Try.prog.underlying 4 = some .bool := Try.underlying4
  have hts : ∀ t ∈ Try.f5.params.toList, Try.prog.readableRec t = true ∧ t < Try.prog.types.size := by
    have h : (Try.f5.params.toList.all fun t => Try.prog.readableRec t && decide (t < Try.prog.types.size)) = true := by kernel_rfl
    intro t ht
    simpa using List.all_eq_true.1 h t ht
  rw [Try.params5] at hA hval
  obtain ⟨v0, vs0, d0, ds0, p0, q0, hargs, rfl, rfl, h0, r0⟩ := trodAll_cons hA
  obtain ⟨v1, vs1, d1, ds1, p1, q1, rfl, rfl, rfl, h1, r1⟩ := trodAll_cons r0
  obtain ⟨v2, vs2, d2, ds2, p2, q2, rfl, rfl, rfl, h2, r2⟩ := trodAll_cons r1
  obtain ⟨rfl, rfl, rfl⟩ := trodAll_nil r2
  obtain rfl : args = #[v0, v1, v2] := by cases args; simp_all
  obtain ⟨rfl, rfl⟩ := trodVars_none hV
  have hpost := fun (W' : World) (hb : Bel W W') => law_post (s := Rows.packetsBackSpec) laidOut hts rfl hW' rfl rfl rfl rfl hB hb
  have z0 : Wt Try.prog 33 d0 := wt_args hz0 (i := 0) (by rw [Try.params5]; rfl) rfl
  have z1 : Wt Try.prog 37 d1 := wt_args hz0 (i := 1) (by rw [Try.params5]; rfl) rfl
  have z2 : Wt Try.prog 54 d2 := wt_args hz0 (i := 2) (by rw [Try.params5]; rfl) rfl
  obtain ⟨t, rfl, ht⟩ := open_SZ rdz_Tx inferInstance (hval 0 33 v0 rfl rfl) h0 z0
  obtain ⟨bs, hbs, _⟩ := open_sl' (α := UInt8) (I := fun _ _ => True) inferInstance rdw_u8 inferInstance (hval 1 37 v1 rfl rfl) h1
  obtain ⟨k, rfl, hk⟩ := open_u16' inferInstance (hval 2 54 v2 rfl rfl) h2
  exact calls_law (by obtain ⟨sb, rfl⟩ := hbs.asV; exact pbacklaw W t sb bs k (by omega) hbs ht) hpost

set_option maxRecDepth 100000 in
theorem lifted (os : Os) (started : os.Started) (H : Type) (enc : TypeId × Value → H) :
    ReturnsInHanded {} Try.checked os 5 .any (Rows.packetsBackSpec.pre6 enc Try.prog Try.f5 Rows.packetsBackRow.domain false) (Rows.packetsBackSpec.post enc Try.prog Try.f5 false true false false) := by
  refine returnsInHanded_of_change_sized (C := Try.checked) own started (by kernel_rfl) Try.func5
    (ChangeSpec.witness6 (enc := enc) (C := Try.checked) false ⟨#[], #[.agg #[.slice none 0 0, .bool false, .int .u8 0, .int .u8 0, .int .u8 0, .slice none 0 0, .int .u8 0, .int .u8 0, .int .u8 0, .int .u8 0, .int .u8 0, .int .u8 0, .int .u8 0, .int .u8 0, .int .u8 0, .int .u8 0, .int .u8 0, .int .u8 0, .int .u8 0, .int .u8 0, .int .u8 0, .int .u8 0, .int .u8 0, .int .u8 0, .int .u8 0, .int .u8 0, .int .u8 0, .int .u8 0, .int .u8 0, .int .u8 0, .int .u8 0, .int .u8 0, .int .u8 0, .int .u8 0, .int .u8 0, .int .u8 0, .int .u8 0, .int .u8 0, .slice none 0 0, .slice none 0 0], .slice none 0 0, .int .u16 0], []⟩ 8 (by kernel_rfl) (by kernel_rfl) (by kernel_rfl) (by kernel_rfl)) ?_
  intro W base args ds gs before hval hW _ hz0 _
  exact contract H enc W base args ds gs before hval hW hz0
end Go.Proofs.Ytmiacbnmifejdaa.packetsBack
namespace Go.Proofs.Ytmiacbnmifejdaa
open Go.ChangeShapes Go.WideShapes Go.ChangeAt Go.RowKit
theorem packetsBack_holds : Rows.PacketsBackSaid :=
  OpenClaim.holds_of_wide 5 Try.f5 rfl rfl rfl rfl rfl rfl rfl ⟨rfl, rfl, rfl, rfl, rfl⟩ rfl rfl rfl rfl rfl (by kernel_rfl) Try.func5 (by kernel_rfl)
    (of_decide_eq_true (by kernel_rfl)) (by unfold Func.isWrapper; rw [if_neg (of_decide_eq_false (by kernel_rfl))]; exact ⟨rfl, rfl⟩)
    (fun os started H enc _ => packetsBack.lifted os started H enc)
end Go.Proofs.Ytmiacbnmifejdaa
#print axioms Go.Proofs.Ytmiacbnmifejdaa.packetsBack_holds
