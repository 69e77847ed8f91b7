/- errors.As -/
import Derived.Test.YthfbfhokmknfnaaDoorR
set_option linter.all false
namespace Go.Fer
open Go Go.Proofs Go.RowKit

section
open Go.RowKit Go.Extern.Stop Go.Stop Go.Extern
theorem as_nil (t : Value) (w : World) : Calls Tryd.prog 43 #[.nilIface, t] w fun e w' => e = .returned (.bool false) ∧ w' = w := by
 go_enter Tryd.func43, Tryd.ntmps43
 go_wp2
 go_ret
 exact ⟨rfl, rfl⟩
abbrev tyV (n : Nat) : Value := .pointer (some ⟨1, n, none⟩)
theorem ax_valueOfP (t : Addr) (w : World) : (ReflectliteValue.unpack (.iface 112 (.pointer (some t)))).run Tryd.prog w = .ok (.agg #[.pointer (some ⟨1, 112, none⟩), .pointer (some ⟨w.heap.size, 0, none⟩), .int .u64 150]) (w.alloc (.cells #[.pointer (some t)] 112)) := by kernel_rfl
theorem ax_typeP (a : Addr) (w : World) : (ReflectliteValue.methodAny (ReflectliteValue.valueError "reflectlite.Value.Type" 0) (fun t _ _ _ => ReflectliteType.toType t) #[.agg #[.pointer (some ⟨1, 112, none⟩), .pointer (some a), .int .u64 150]]).run Tryd.prog w = .ok (.iface 147 (.agg #[.pointer (some ⟨1, 112, none⟩)])) w := by kernel_rfl
theorem ax_mKind (h : Value) (w : World) : (Go.method 317 147 (.agg #[h]) "Kind").run Tryd.prog w = .ok (92, h) w := by kernel_rfl
theorem ax_kindP (w : World) : ((ReflectliteType.abiMethod fun t => (fun a : Nat => Value.int IntKind.u8 (a : Int)) <$> Rtype.kind t) #[.pointer (some ⟨1, 112, none⟩)]).run Tryd.prog w = .ok (.int .u8 22) w := by kernel_rfl
theorem ax_kindE (w : World) : ((ReflectliteType.abiMethod fun t => (fun a : Nat => Value.int IntKind.u8 (a : Int)) <$> Rtype.kind t) #[.pointer (some ⟨1, 33, none⟩)]).run Tryd.prog w = .ok (.int .u8 2) w := by kernel_rfl
theorem ax_rlm (z : Sem Value) (f : TypeId → Addr → Nat → Nat → Sem Value) (v : Value) :
  ReflectliteValue.method z f #[v] = (do match ← ReflectliteValue.parts v with | none => z | some (t, a, fl) => f t a fl (fl % 32)) := rfl
theorem ax_partsP (a : Addr) (w : World) : (ReflectliteValue.parts (.agg #[.pointer (some ⟨1, 112, none⟩), .pointer (some a), .int .u64 150])).run Tryd.prog w = .ok (some (112, a, 150)) w := by kernel_rfl
theorem ax_isNil (a p : Addr) (W : World) (ha : W.cell? a = some (.pointer (some p))) :
  (ReflectliteValue.method (ReflectliteValue.valueError "reflectlite.Value.IsNil" 0) ReflectliteValue.isNil #[.agg #[.pointer (some ⟨1, 112, none⟩), .pointer (some a), .int .u64 150]]).run Tryd.prog W = .ok (.bool false) W := by
 rw [ax_rlm]
 simp only [Sem.run_bind, ax_partsP, Result.andThen]
 simp [ReflectliteValue.isNil, loadVar, isAgg, underlying, Tryd.underlying112, ha, Result.andThen]
theorem ax_mElem (h : Value) (w : World) : (Go.method 317 147 (.agg #[h]) "Elem").run Tryd.prog w = .ok (103, .agg #[h]) w := by kernel_rfl
theorem ax_mImpl (h : Value) (w : World) : (Go.method 317 147 (.agg #[h]) "Implements").run Tryd.prog w = .ok (104, .agg #[h]) w := by kernel_rfl
theorem ax_mAsgn (h : Value) (w : World) : (Go.method 317 147 (.agg #[h]) "AssignableTo").run Tryd.prog w = .ok (101, .agg #[h]) w := by kernel_rfl
theorem ax_elemT (w : World) : (ReflectliteType.method ReflectliteType.elem #[.agg #[.pointer (some ⟨1, 112, none⟩)]]).run Tryd.prog w = .ok (.iface 147 (.agg #[.pointer (some ⟨1, 33, none⟩)])) w := by kernel_rfl
theorem ax_impl (w : World) : (ReflectliteType.relation "Implements" ReflectliteType.implements_ #[.agg #[.pointer (some ⟨1, 33, none⟩)], .iface 147 (.agg #[.pointer (some ⟨1, 109, none⟩)])]).run Tryd.prog w = .ok (.bool true) w := by kernel_rfl
theorem ax_typeOf (v : Value) (w : World) : (ReflectliteType.typeOf #[.iface 33 v]).run Tryd.prog w = .ok (.iface 147 (.agg #[.pointer (some ⟨1, 33, none⟩)])) w := by kernel_rfl
theorem ax_asgn (w : World) : (ReflectliteType.relation "AssignableTo" ReflectliteType.assignableTo #[.agg #[.pointer (some ⟨1, 33, none⟩)], .iface 147 (.agg #[.pointer (some ⟨1, 33, none⟩)])]).run Tryd.prog w = .ok (.bool true) w := by kernel_rfl
theorem ax_valueOfE (n : Int) (w : World) : (ReflectliteValue.unpack (.iface 33 (.int .i64 n))).run Tryd.prog w = .ok (.agg #[.pointer (some ⟨1, 33, none⟩), .pointer (some ⟨w.heap.size, 0, none⟩), .int .u64 130]) (w.alloc (.cells #[.int .i64 n] 33)) := by kernel_rfl
theorem ax_elemOf (w : World) : (Rtype.elem? 112).run Tryd.prog w = .ok (some 33) w := by kernel_rfl
theorem ax_mk (p : Addr) (w : World) : (ReflectliteValue.mk 33 p ReflectliteValue.flagAddr).run Tryd.prog w = .ok (.agg #[.pointer (some ⟨1, 33, none⟩), .pointer (some p), .int .u64 386]) w := by kernel_rfl
theorem ax_elemV (a p : Addr) (W : World) (ha : W.cell? a = some (.pointer (some p))) :
  (ReflectliteValue.method (ReflectliteValue.valueError "reflectlite.Value.Elem" 0) ReflectliteValue.elem #[.agg #[.pointer (some ⟨1, 112, none⟩), .pointer (some a), .int .u64 150]]).run Tryd.prog W = .ok (.agg #[.pointer (some ⟨1, 33, none⟩), .pointer (some p), .int .u64 386]) W := by
 rw [ax_rlm]
 simp only [Sem.run_bind, ax_partsP, Result.andThen]
 simp [ReflectliteValue.elem, loadVar, isAgg, underlying, Tryd.underlying112, ha, Result.andThen, ax_elemOf, ax_mk]
theorem ax_rls (v x : Value) : ReflectliteValue.set #[v, x] = (do
  let (some (dst, a, fl), some (src, b, _)) := (← ReflectliteValue.parts v, ← ReflectliteValue.parts x)
   | unsupported (.noEntry "extern/(internal/reflectlite.Value).Set.zeroValue")
  if fl / ReflectliteValue.flagAddr % 2 == 0 then unsupported (.noEntry "extern/(internal/reflectlite.Value).Set.unaddressable")
  let val ← loadVar src b
  if ← Rtype.directlyAssignable dst src then storeVar dst a val
  else if ← Rtype.implements dst src then
   if (← Rtype.kind src) == 20 then
    match val with
    | .nilIface => unsupported (.noEntry "extern/reflectlite: a nil value of one interface type handed on as a value of another")
    | _ => storeVar dst a val
   else storeVar dst a (.iface src val)
  else panicString ("reflectlite.Set: value of type " ++ (← Rtype.spelt src) ++ " is not assignable to type " ++ (← Rtype.spelt dst))
  pure (.tuple #[])) := rfl
theorem ax_partsA (a : Addr) (w : World) : (ReflectliteValue.parts (.agg #[.pointer (some ⟨1, 33, none⟩), .pointer (some a), .int .u64 386])).run Tryd.prog w = .ok (some (33, a, 386)) w := by kernel_rfl
theorem ax_partsE (a : Addr) (w : World) : (ReflectliteValue.parts (.agg #[.pointer (some ⟨1, 33, none⟩), .pointer (some a), .int .u64 130])).run Tryd.prog w = .ok (some (33, a, 130)) w := by kernel_rfl
theorem ax_direct (w : World) : (Rtype.directlyAssignable 33 33).run Tryd.prog w = .ok true w := by kernel_rfl
theorem ax_set (tb : Nat) (b : Addr) (n : Int) (cs : Array Value) (E : TypeId) (W : World) (hb : W.cell? b = some (.int .i64 n)) (ht : W.heap[tb]? = some (.cells cs E (0, 0))) (hc : 1 ≤ cs.size) :
  (ReflectliteValue.set #[.agg #[.pointer (some ⟨1, 33, none⟩), .pointer (some ⟨tb, 0, none⟩), .int .u64 386], .agg #[.pointer (some ⟨1, 33, none⟩), .pointer (some b), .int .u64 130]]).run Tryd.prog W
   = .ok (.tuple #[]) (W.setRow tb (cs.toList.take 0 ++ (Value.int .i64 n).cells.toList ++ cs.toList.drop (0 + (Value.int .i64 n).cells.toList.length)).toArray) := by
 have hst := run_storeVar_blk (P := Tryd.prog) (T := 33) (sz := 1) inferInstance ht 0 (.int .i64 n) rfl (by omega) (by intro u hu; simp [Value.cells] at hu; subst hu; rfl)
 rw [ax_rls]
 simp only [Sem.run_bind, ax_partsA, ax_partsE, Result.andThen]
 simp [ReflectliteValue.flagAddr, loadVar, isAgg, underlying, Tryd.underlying33, hb, Result.andThen, ax_direct]
 simp only [Sem.run_bind, hst, Result.andThen]
 rfl
end

section
open Go.RowKit Go.Extern.Stop Go.Stop Go.Extern
abbrev A1 (tb : Nat) (w : World) : World := w.alloc (.cells #[.pointer (some ⟨tb, 0, none⟩)] 112)
abbrev A2 (tb : Nat) (w : World) : World := (A1 tb w).alloc (.cells #[.pointer (some ⟨1, 112, none⟩), .pointer (some ⟨w.heap.size, 0, none⟩), .int .u64 150] 135)
abbrev A3 (tb : Nat) (w : World) : World := (A2 tb w).alloc (.cells #[.pointer (some ⟨1, 112, none⟩), .pointer (some ⟨w.heap.size, 0, none⟩), .int .u64 150] 135)
abbrev A4 (n : Int) (tb : Nat) (w : World) : World := (A3 tb w).alloc (.cells #[.int .i64 n] 33)
/-- the package-level variable that errors.As reads -/
def ErrLaid (w : World) : Prop := w.cell? ⟨0, 0, none⟩ = some (.iface 147 (.agg #[.pointer (some ⟨1, 109, none⟩)]))
theorem ErrLaid.bel {w w' : World} (hb : Bel w w') (h : ErrLaid w) : ErrLaid w' := hb.cell h
set_option maxHeartbeats 1200000 in
theorem as_hit (n : Int) (tb : Nat) (cs : Array Value) (E : TypeId) (w : World) (hg : ErrLaid w) (ht0 : w.heap[tb]? = some (.cells cs E (0, 0))) (hc : 1 ≤ cs.size) :
  Calls Tryd.prog 43 #[.iface 33 (.int .i64 n), .iface 112 (.pointer (some ⟨tb, 0, none⟩))] w fun ev w' => ev = .returned (.bool true) ∧ w' = (A4 n tb w).setRow tb (cs.toList.take 0 ++ (Value.int .i64 n).cells.toList ++ cs.toList.drop (0 + (Value.int .i64 n).cells.toList.length)).toArray := by
 unfold ErrLaid at hg
 have h6 := @run_callFunc_extern Tryd.prog 53 _ (fun args => ReflectliteValue.unpack (args.getD 0 (.tuple #[]))) Tryd.func53 (by kernel_rfl) (by kernel_rfl) (by kernel_rfl) (by kernel_rfl)
 have h7 := @run_callFunc_extern Tryd.prog 54 _ (ReflectliteValue.methodAny (ReflectliteValue.valueError "reflectlite.Value.Type" 0) (fun t _ _ _ => ReflectliteType.toType t)) Tryd.func54 (by kernel_rfl) (by kernel_rfl) (by kernel_rfl) (by kernel_rfl)
 have h8 := @run_callFunc_extern Tryd.prog 55 _ (ReflectliteValue.method (ReflectliteValue.valueError "reflectlite.Value.IsNil" 0) ReflectliteValue.isNil) Tryd.func55 (by kernel_rfl) (by kernel_rfl) (by kernel_rfl) (by kernel_rfl)
 have h27 := @run_callFunc_extern Tryd.prog 92 _ (ReflectliteType.abiMethod fun t => do pure (.int .u8 (← Rtype.kind t))) Tryd.func92 (by kernel_rfl) (by kernel_rfl) (by kernel_rfl) (by kernel_rfl)
 have h37 := @run_callFunc_extern Tryd.prog 103 _ (ReflectliteType.method ReflectliteType.elem) Tryd.func103 (by kernel_rfl) (by kernel_rfl) (by kernel_rfl) (by kernel_rfl)
 have h38 := @run_callFunc_extern Tryd.prog 104 _ (ReflectliteType.relation "Implements" ReflectliteType.implements_) Tryd.func104 (by kernel_rfl) (by kernel_rfl) (by kernel_rfl) (by kernel_rfl)
 have h10 := @run_callFunc_extern Tryd.prog 61 _ ReflectliteType.typeOf Tryd.func61 (by kernel_rfl) (by kernel_rfl) (by kernel_rfl) (by kernel_rfl)
 have h35 := @run_callFunc_extern Tryd.prog 101 _ (ReflectliteType.relation "AssignableTo" ReflectliteType.assignableTo) Tryd.func101 (by kernel_rfl) (by kernel_rfl) (by kernel_rfl) (by kernel_rfl)
 have h11 := @run_callFunc_extern Tryd.prog 62 _ (ReflectliteValue.method (ReflectliteValue.valueError "reflectlite.Value.Elem" 0) ReflectliteValue.elem) Tryd.func62 (by kernel_rfl) (by kernel_rfl) (by kernel_rfl) (by kernel_rfl)
 have h12 := @run_callFunc_extern Tryd.prog 63 _ ReflectliteValue.set Tryd.func63 (by kernel_rfl) (by kernel_rfl) (by kernel_rfl) (by kernel_rfl)
 have tO := ax_typeOf
 have mA := ax_mAsgn
 have a25 := ax_asgn
 have v25 := ax_valueOfE
 have f6 := ax_valueOfP
 have f7 := ax_typeP
 have mK := ax_mKind
 have mE := ax_mElem
 have mI := ax_mImpl
 have k27 := ax_kindP
 have k25 := ax_kindE
 have e27 := ax_elemT
 have i25 := ax_impl
 have n8 := ax_isNil ⟨w.heap.size, 0, none⟩ ⟨tb, 0, none⟩ (A2 tb w) (by simp)
 have hlt : 0 < w.heap.size := by
  rcases Nat.eq_zero_or_pos w.heap.size with h0 | h
  ·simp [World.cell?, h0] at hg
  ·exact h
 have hg2 : (A2 tb w).cell? ⟨0, 0, none⟩ = some (.iface 147 (.agg #[.pointer (some ⟨1, 109, none⟩)])) := by
  rw [World.cell?_alloc_lt _ _ ⟨0, 0, none⟩ (by simp), World.cell?_alloc_lt _ _ ⟨0, 0, none⟩ hlt]; exact hg
 have htl : tb < w.heap.size := (Array.getElem?_eq_some_iff.1 ht0).1
 have hb4 : (A4 n tb w).heap[tb]? = some (.cells cs E (0, 0)) := by
  have b1 := Bel.alloc w (.cells #[.pointer (some ⟨tb, 0, none⟩)] 112)
  have b2 := Bel.alloc (A1 tb w) (.cells #[.pointer (some ⟨1, 112, none⟩), .pointer (some ⟨w.heap.size, 0, none⟩), .int .u64 150] 135)
  have b3 := Bel.alloc (A2 tb w) (.cells #[.pointer (some ⟨1, 112, none⟩), .pointer (some ⟨w.heap.size, 0, none⟩), .int .u64 150] 135)
  have b4 := Bel.alloc (A3 tb w) (.cells #[.int .i64 n] 33)
  exact (((b1.trans b2).trans b3).trans b4).get ht0
 have el := ax_elemV ⟨w.heap.size, 0, none⟩ ⟨tb, 0, none⟩ (A3 tb w) (by rw [World.cell?_alloc_lt _ _ ⟨w.heap.size, 0, none⟩ (by simp; omega)]; simp)
 have st := ax_set tb ⟨w.heap.size + 1 + 1 + 1, 0, none⟩ n cs E (A4 n tb w) (by rw [World.cell?_alloc_at _ _ _ _ (by simp)]; rfl) hb4 hc
 go_enter Tryd.func43, Tryd.ntmps43
 go_wp2
 refine wp_loop_rounds 1 ?_
 rw [rounds_succ]
 go_wp2
 go_ret
 refine ⟨rfl, ?_⟩
 simp [Value.cells]
end

end Go.Fer
