/- errors.As, its parts -/
import Derived.Test.YtmibkfdpgmohfaaDoorR
set_option linter.all false
namespace Go.Fer
open Go Go.Proofs Go.RowKit

section
open Go.RowKit Go.Extern.Stop Go.Stop Go.Extern
theorem as_nil (t : Value) (w : World) : Calls Tryd.prog 26 #[.nilIface, t] w fun e w' => e = .returned (.bool false) ∧ w' = w := by
  go_enter Tryd.func26, Tryd.ntmps26
  go_wp2
  go_ret
  exact ⟨rfl, rfl⟩
abbrev tyV (n : Nat) : Value := .pointer (some ⟨1, n, none⟩)
theorem ax_valueOfP (t : Addr) (w : World) : (ReflectliteValue.unpack (.iface 92 (.pointer (some t)))).run Tryd.prog w = .ok (.agg #[.pointer (some ⟨1, 92, none⟩), .pointer (some ⟨w.heap.size, 0, none⟩), .int .u64 150]) (w.alloc (.cells #[.pointer (some t)] 92)) := by kernel_rfl
theorem ax_typeP (a : Addr) (w : World) : (ReflectliteValue.methodAny (ReflectliteValue.valueError "reflectlite.Value.Type" 0) (fun t _ _ _ => ReflectliteType.toType t) #[.agg #[.pointer (some ⟨1, 92, none⟩), .pointer (some a), .int .u64 150]]).run Tryd.prog w = .ok (.iface 118 (.agg #[.pointer (some ⟨1, 92, none⟩)])) w := by kernel_rfl
theorem ax_mKind (h : Value) (w : World) : (Go.method 288 118 (.agg #[h]) "Kind").run Tryd.prog w = .ok (69, h) w := by kernel_rfl
theorem ax_kindP (w : World) : ((ReflectliteType.abiMethod fun t => (fun a : Nat => Value.int IntKind.u8 (a : Int)) <$> Rtype.kind t) #[.pointer (some ⟨1, 92, none⟩)]).run Tryd.prog w = .ok (.int .u8 22) w := by kernel_rfl
theorem ax_kindE (w : World) : ((ReflectliteType.abiMethod fun t => (fun a : Nat => Value.int IntKind.u8 (a : Int)) <$> Rtype.kind t) #[.pointer (some ⟨1, 50, none⟩)]).run Tryd.prog w = .ok (.int .u8 2) w := by kernel_rfl
theorem ax_rlm (z : Sem Value) (f : TypeId → Addr → Nat → Nat → Sem Value) (v : Value) :
    ReflectliteValue.method z f #[v] = (do match ← ReflectliteValue.parts v with | none => z | some (t, a, fl) => f t a fl (fl % 32)) := rfl
theorem ax_partsP (a : Addr) (w : World) : (ReflectliteValue.parts (.agg #[.pointer (some ⟨1, 92, none⟩), .pointer (some a), .int .u64 150])).run Tryd.prog w = .ok (some (92, a, 150)) w := by kernel_rfl
theorem ax_isNil (a p : Addr) (W : World) (ha : W.cell? a = some (.pointer (some p))) :
    (ReflectliteValue.method (ReflectliteValue.valueError "reflectlite.Value.IsNil" 0) ReflectliteValue.isNil #[.agg #[.pointer (some ⟨1, 92, none⟩), .pointer (some a), .int .u64 150]]).run Tryd.prog W = .ok (.bool false) W := by
  rw [ax_rlm]
  simp only [Sem.run_bind, ax_partsP, Result.andThen]
  simp [ReflectliteValue.isNil, loadVar, isAgg, underlying, Tryd.underlying92, ha, Result.andThen]
theorem ax_mElem (h : Value) (w : World) : (Go.method 288 118 (.agg #[h]) "Elem").run Tryd.prog w = .ok (80, .agg #[h]) w := by kernel_rfl
theorem ax_mImpl (h : Value) (w : World) : (Go.method 288 118 (.agg #[h]) "Implements").run Tryd.prog w = .ok (81, .agg #[h]) w := by kernel_rfl
theorem ax_mAsgn (h : Value) (w : World) : (Go.method 288 118 (.agg #[h]) "AssignableTo").run Tryd.prog w = .ok (78, .agg #[h]) w := by kernel_rfl
theorem ax_elemT (w : World) : (ReflectliteType.method ReflectliteType.elem #[.agg #[.pointer (some ⟨1, 92, none⟩)]]).run Tryd.prog w = .ok (.iface 118 (.agg #[.pointer (some ⟨1, 50, none⟩)])) w := by kernel_rfl
theorem ax_impl (w : World) : (ReflectliteType.relation "Implements" ReflectliteType.implements_ #[.agg #[.pointer (some ⟨1, 50, none⟩)], .iface 118 (.agg #[.pointer (some ⟨1, 89, none⟩)])]).run Tryd.prog w = .ok (.bool true) w := by kernel_rfl
theorem ax_typeOf (v : Value) (w : World) : (ReflectliteType.typeOf #[.iface 50 v]).run Tryd.prog w = .ok (.iface 118 (.agg #[.pointer (some ⟨1, 50, none⟩)])) w := by kernel_rfl
theorem ax_asgn (w : World) : (ReflectliteType.relation "AssignableTo" ReflectliteType.assignableTo #[.agg #[.pointer (some ⟨1, 50, none⟩)], .iface 118 (.agg #[.pointer (some ⟨1, 50, none⟩)])]).run Tryd.prog w = .ok (.bool true) w := by kernel_rfl
theorem ax_valueOfE (n : Int) (w : World) : (ReflectliteValue.unpack (.iface 50 (.int .i64 n))).run Tryd.prog w = .ok (.agg #[.pointer (some ⟨1, 50, none⟩), .pointer (some ⟨w.heap.size, 0, none⟩), .int .u64 130]) (w.alloc (.cells #[.int .i64 n] 50)) := by kernel_rfl
theorem ax_elemOf (w : World) : (Rtype.elem? 92).run Tryd.prog w = .ok (some 50) w := by kernel_rfl
theorem ax_mk (p : Addr) (w : World) : (ReflectliteValue.mk 50 p ReflectliteValue.flagAddr).run Tryd.prog w = .ok (.agg #[.pointer (some ⟨1, 50, none⟩), .pointer (some p), .int .u64 386]) w := by kernel_rfl
theorem ax_elemV (a p : Addr) (W : World) (ha : W.cell? a = some (.pointer (some p))) :
    (ReflectliteValue.method (ReflectliteValue.valueError "reflectlite.Value.Elem" 0) ReflectliteValue.elem #[.agg #[.pointer (some ⟨1, 92, none⟩), .pointer (some a), .int .u64 150]]).run Tryd.prog W = .ok (.agg #[.pointer (some ⟨1, 50, none⟩), .pointer (some p), .int .u64 386]) W := by
  rw [ax_rlm]
  simp only [Sem.run_bind, ax_partsP, Result.andThen]
  simp [ReflectliteValue.elem, loadVar, isAgg, underlying, Tryd.underlying92, ha, Result.andThen, ax_elemOf, ax_mk]
theorem ax_rls (v x : Value) : ReflectliteValue.set #[v, x] = (do
    let (some (dst, a, fl), some (src, b, _)) := (← ReflectliteValue.parts v, ← ReflectliteValue.parts x)
      | unsupported (.noEntry "extern/(internal/reflectlite.Value).Set.zeroValue")
    if fl / ReflectliteValue.flagAddr % 2 == 0 then unsupported (.noEntry "extern/(internal/reflectlite.Value).Set.unaddressable")
    let val ← loadVar src b
    if ← Rtype.directlyAssignable dst src then storeVar dst a val
    else if ← Rtype.implements dst src then
      if (← Rtype.kind src) == 20 then
        match val with
        | .nilIface => unsupported (.noEntry "extern/reflectlite: a nil value of one interface type handed on as a value of another")
        | _ => storeVar dst a val
      else storeVar dst a (.iface src val)
    else panicString ("reflectlite.Set: value of type " ++ (← Rtype.spelt src) ++ " is not assignable to type " ++ (← Rtype.spelt dst))
    pure (.tuple #[])) := rfl
theorem ax_partsA (a : Addr) (w : World) : (ReflectliteValue.parts (.agg #[.pointer (some ⟨1, 50, none⟩), .pointer (some a), .int .u64 386])).run Tryd.prog w = .ok (some (50, a, 386)) w := by kernel_rfl
theorem ax_partsE (a : Addr) (w : World) : (ReflectliteValue.parts (.agg #[.pointer (some ⟨1, 50, none⟩), .pointer (some a), .int .u64 130])).run Tryd.prog w = .ok (some (50, a, 130)) w := by kernel_rfl
theorem ax_direct (w : World) : (Rtype.directlyAssignable 50 50).run Tryd.prog w = .ok true w := by kernel_rfl
theorem ax_set (tb : Nat) (b : Addr) (n : Int) (cs : Array Value) (E : TypeId) (W : World) (hb : W.cell? b = some (.int .i64 n)) (ht : W.heap[tb]? = some (.cells cs E (0, 0))) (hc : 1 ≤ cs.size) :
    (ReflectliteValue.set #[.agg #[.pointer (some ⟨1, 50, none⟩), .pointer (some ⟨tb, 0, none⟩), .int .u64 386], .agg #[.pointer (some ⟨1, 50, none⟩), .pointer (some b), .int .u64 130]]).run Tryd.prog W
      = .ok (.tuple #[]) (W.setRow tb (cs.toList.take 0 ++ (Value.int .i64 n).cells.toList ++ cs.toList.drop (0 + (Value.int .i64 n).cells.toList.length)).toArray) := by
  have hst := run_storeVar_blk (P := Tryd.prog) (T := 50) (sz := 1) inferInstance ht 0 (.int .i64 n) rfl (by omega) (by intro u hu; simp [Value.cells] at hu; subst hu; rfl)
  rw [ax_rls]
  simp only [Sem.run_bind, ax_partsA, ax_partsE, Result.andThen]
  simp [ReflectliteValue.flagAddr, loadVar, isAgg, underlying, Tryd.underlying50, hb, Result.andThen, ax_direct]
  simp only [Sem.run_bind, hst, Result.andThen]
  rfl
end

end Go.Fer
