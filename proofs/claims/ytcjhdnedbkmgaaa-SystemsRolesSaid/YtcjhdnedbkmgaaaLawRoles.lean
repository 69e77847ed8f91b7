/- Who must sign, or be written, and is not, stops it; accounts that stand behind those that are asked for make no difference, if they are there: for all accounts, roles, instructions and bytes. No condition. -/
import Derived.Test.YtcjhdnedbkmgaaaU
import Derived.Test.YtcjhdnedbkmgaaaRows
namespace Go.Proofs.Ytcjhdnedbkmgaaa.systemsRoles
open Go.ChangeShapes Go.WideShapes Go.ChangeAt Go.RowKit Go.Fer
set_option linter.all false
theorem own : ownKnob Try.prog.godebug = none := by kernel_rfl
theorem laidOut : laidOutB Try.prog = true := by kernel_rfl
theorem contract (H : Type) (enc : TypeId × Value → H) (W : World) (base : Nat) (args : Array Value) (ds gs : List (DataW H)) (before : List MemPlace)
    (hval : ∀ (j : Nat) t v, Try.f7.params[j]? = some t → args[j]? = some v → Value.okWide Try.prog W .any base t v)
    (hW : DataW.Whole enc Try.prog Try.f7.params.toList Rows.systemsRolesSpec.vars false W args.toList ds gs before) :
    Calls Try.prog 7 args W fun e W' => ∃ v, e = .returned v ∧ Rows.systemsRolesSpec.post enc Try.prog Try.f7 false true false false W args v W' := by
  have hW' := hW
  obtain ⟨p, q, hA0, hV, rfl, hfz, hnd⟩ := hW
  have hA : DataW.TrodAll enc Try.prog W 0 (fun _ => true) true Try.f7.params.toList args.toList ds p := hA0
  have hB : Try.prog.underlying 4 = some .bool := Try.underlying4
  have hts : ∀ t ∈ Try.f7.params.toList, Try.prog.readableRec t = true ∧ t < Try.prog.types.size := by
    have h : (Try.f7.params.toList.all fun t => Try.prog.readableRec t && decide (t < Try.prog.types.size)) = true := by kernel_rfl
    intro t ht
    simpa using List.all_eq_true.1 h t ht
  rw [Try.params7] at hA hval
  obtain ⟨v0, vs0, d0, ds0, p0, q0, hargs, rfl, rfl, h0, r0⟩ := trodAll_cons hA
  obtain ⟨v1, vs1, d1, ds1, p1, q1, rfl, rfl, rfl, h1, r1⟩ := trodAll_cons r0
  obtain ⟨rfl, rfl, rfl⟩ := trodAll_nil r1
  obtain rfl : args = #[v0, v1] := by cases args; simp_all
  obtain ⟨rfl, rfl⟩ := trodVars_none hV
  have hpost := fun (W' : World) (hb : Bel W W') => law_post (s := Rows.systemsRolesSpec) laidOut hts rfl hW' rfl rfl rfl rfl hB hb
  obtain ⟨q, rfl, hq⟩ := open_S rdw_LAsk inferInstance (hval 0 28 v0 rfl rfl) h0
  obtain ⟨more, hm, _⟩ := open_sl' (α := UInt8) (I := fun _ _ => True) inferInstance rdw_u8 inferInstance (hval 1 24 v1 rfl rfl) h1
  exact calls_law (roles_law W q v1 more hq hm) hpost

set_option maxRecDepth 100000 in
theorem lifted (os : Os) (started : os.Started) (H : Type) (enc : TypeId × Value → H) :
    ReturnsInHanded {} Try.checked os 7 .any (Rows.systemsRolesSpec.pre6 enc Try.prog Try.f7 Rows.systemsRolesRow.domain false) (Rows.systemsRolesSpec.post enc Try.prog Try.f7 false true false false) := by
  refine returnsInHanded_of_change (C := Try.checked) own started (by kernel_rfl) Try.func7
    (ChangeSpec.witness6 (enc := enc) (C := Try.checked) false ⟨#[], #[.agg #[.slice none 0 0, .slice none 0 0, .int .u8 0, .slice none 0 0, .slice none 0 0], .slice none 0 0], []⟩ 8 (by kernel_rfl) (by kernel_rfl) (by kernel_rfl) (by kernel_rfl)) ?_
  intro W base args ds gs before hval hW _ _
  exact contract H enc W base args ds gs before hval hW
end Go.Proofs.Ytcjhdnedbkmgaaa.systemsRoles
namespace Go.Proofs.Ytcjhdnedbkmgaaa
open Go.ChangeShapes Go.WideShapes Go.ChangeAt Go.RowKit
theorem systemsRoles_holds : Rows.SystemsRolesSaid :=
  OpenClaim.holds_of_wide 7 Try.f7 rfl rfl rfl rfl rfl rfl rfl ⟨rfl, rfl, rfl, rfl, rfl⟩ rfl rfl rfl rfl rfl (by kernel_rfl) Try.func7 (by kernel_rfl)
    (of_decide_eq_true (by kernel_rfl)) (by unfold Func.isWrapper; rw [if_neg (of_decide_eq_false (by kernel_rfl))]; exact ⟨rfl, rfl⟩)
    (fun os started H enc _ => systemsRoles.lifted os started H enc)
end Go.Proofs.Ytcjhdnedbkmgaaa
#print axioms Go.Proofs.Ytcjhdnedbkmgaaa.systemsRoles_holds
