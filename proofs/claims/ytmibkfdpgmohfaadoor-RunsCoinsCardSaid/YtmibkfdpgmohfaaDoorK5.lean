/- errors.As, an Errno -/
import Derived.Test.YtmibkfdpgmohfaaDoorK4
set_option linter.all false
namespace Go.Fer
open Go Go.Proofs Go.RowKit

section
open Go.RowKit Go.Extern.Stop Go.Stop Go.Extern
abbrev A1 (tb : Nat) (w : World) : World := w.alloc (.cells #[.pointer (some ⟨tb, 0, none⟩)] 92)
abbrev A2 (tb : Nat) (w : World) : World := (A1 tb w).alloc (.cells #[.pointer (some ⟨1, 92, none⟩), .pointer (some ⟨w.heap.size, 0, none⟩), .int .u64 150] 106)
abbrev A3 (tb : Nat) (w : World) : World := (A2 tb w).alloc (.cells #[.pointer (some ⟨1, 92, none⟩), .pointer (some ⟨w.heap.size, 0, none⟩), .int .u64 150] 106)
abbrev A4 (n : Int) (tb : Nat) (w : World) : World := (A3 tb w).alloc (.cells #[.int .i64 n] 50)
/-- the package-level variable that errors.As reads -/
def ErrLaid (w : World) : Prop := w.cell? ⟨0, 0, none⟩ = some (.iface 118 (.agg #[.pointer (some ⟨1, 89, none⟩)]))
theorem ErrLaid.bel {w w' : World} (hb : Bel w w') (h : ErrLaid w) : ErrLaid w' := hb.cell h
set_option maxHeartbeats 1200000 in
theorem as_hit (n : Int) (tb : Nat) (cs : Array Value) (E : TypeId) (w : World) (hg : ErrLaid w) (ht0 : w.heap[tb]? = some (.cells cs E (0, 0))) (hc : 1 ≤ cs.size) :
    Calls Tryd.prog 26 #[.iface 50 (.int .i64 n), .iface 92 (.pointer (some ⟨tb, 0, none⟩))] w fun ev w' => ev = .returned (.bool true) ∧ w' = (A4 n tb w).setRow tb (cs.toList.take 0 ++ (Value.int .i64 n).cells.toList ++ cs.toList.drop (0 + (Value.int .i64 n).cells.toList.length)).toArray := by
  unfold ErrLaid at hg
  have h6 := @run_callFunc_extern Tryd.prog 31 _ (fun args => ReflectliteValue.unpack (args.getD 0 (.tuple #[]))) Tryd.func31 (by kernel_rfl) (by kernel_rfl) (by kernel_rfl) (by kernel_rfl)
  have h7 := @run_callFunc_extern Tryd.prog 32 _ (ReflectliteValue.methodAny (ReflectliteValue.valueError "reflectlite.Value.Type" 0) (fun t _ _ _ => ReflectliteType.toType t)) Tryd.func32 (by kernel_rfl) (by kernel_rfl) (by kernel_rfl) (by kernel_rfl)
  have h8 := @run_callFunc_extern Tryd.prog 33 _ (ReflectliteValue.method (ReflectliteValue.valueError "reflectlite.Value.IsNil" 0) ReflectliteValue.isNil) Tryd.func33 (by kernel_rfl) (by kernel_rfl) (by kernel_rfl) (by kernel_rfl)
  have h27 := @run_callFunc_extern Tryd.prog 69 _ (ReflectliteType.abiMethod fun t => do pure (.int .u8 (← Rtype.kind t))) Tryd.func69 (by kernel_rfl) (by kernel_rfl) (by kernel_rfl) (by kernel_rfl)
  have h37 := @run_callFunc_extern Tryd.prog 80 _ (ReflectliteType.method ReflectliteType.elem) Tryd.func80 (by kernel_rfl) (by kernel_rfl) (by kernel_rfl) (by kernel_rfl)
  have h38 := @run_callFunc_extern Tryd.prog 81 _ (ReflectliteType.relation "Implements" ReflectliteType.implements_) Tryd.func81 (by kernel_rfl) (by kernel_rfl) (by kernel_rfl) (by kernel_rfl)
  have h10 := @run_callFunc_extern Tryd.prog 38 _ ReflectliteType.typeOf Tryd.func38 (by kernel_rfl) (by kernel_rfl) (by kernel_rfl) (by kernel_rfl)
  have h35 := @run_callFunc_extern Tryd.prog 78 _ (ReflectliteType.relation "AssignableTo" ReflectliteType.assignableTo) Tryd.func78 (by kernel_rfl) (by kernel_rfl) (by kernel_rfl) (by kernel_rfl)
  have h11 := @run_callFunc_extern Tryd.prog 39 _ (ReflectliteValue.method (ReflectliteValue.valueError "reflectlite.Value.Elem" 0) ReflectliteValue.elem) Tryd.func39 (by kernel_rfl) (by kernel_rfl) (by kernel_rfl) (by kernel_rfl)
  have h12 := @run_callFunc_extern Tryd.prog 40 _ ReflectliteValue.set Tryd.func40 (by kernel_rfl) (by kernel_rfl) (by kernel_rfl) (by kernel_rfl)
  have tO := ax_typeOf
  have mA := ax_mAsgn
  have a25 := ax_asgn
  have v25 := ax_valueOfE
  have f6 := ax_valueOfP
  have f7 := ax_typeP
  have mK := ax_mKind
  have mE := ax_mElem
  have mI := ax_mImpl
  have k27 := ax_kindP
  have k25 := ax_kindE
  have e27 := ax_elemT
  have i25 := ax_impl
  have n8 := ax_isNil ⟨w.heap.size, 0, none⟩ ⟨tb, 0, none⟩ (A2 tb w) (by simp)
  have hlt : 0 < w.heap.size := by
    rcases Nat.eq_zero_or_pos w.heap.size with h0 | h
    · simp [World.cell?, h0] at hg
    · exact h
  have hg2 : (A2 tb w).cell? ⟨0, 0, none⟩ = some (.iface 118 (.agg #[.pointer (some ⟨1, 89, none⟩)])) := by
    rw [World.cell?_alloc_lt _ _ ⟨0, 0, none⟩ (by simp), World.cell?_alloc_lt _ _ ⟨0, 0, none⟩ hlt]; exact hg
  have htl : tb < w.heap.size := (Array.getElem?_eq_some_iff.1 ht0).1
  have hb4 : (A4 n tb w).heap[tb]? = some (.cells cs E (0, 0)) := by
    have b1 := Bel.alloc w (.cells #[.pointer (some ⟨tb, 0, none⟩)] 92)
    have b2 := Bel.alloc (A1 tb w) (.cells #[.pointer (some ⟨1, 92, none⟩), .pointer (some ⟨w.heap.size, 0, none⟩), .int .u64 150] 106)
    have b3 := Bel.alloc (A2 tb w) (.cells #[.pointer (some ⟨1, 92, none⟩), .pointer (some ⟨w.heap.size, 0, none⟩), .int .u64 150] 106)
    have b4 := Bel.alloc (A3 tb w) (.cells #[.int .i64 n] 50)
    exact (((b1.trans b2).trans b3).trans b4).get ht0
  have el := ax_elemV ⟨w.heap.size, 0, none⟩ ⟨tb, 0, none⟩ (A3 tb w) (by rw [World.cell?_alloc_lt _ _ ⟨w.heap.size, 0, none⟩ (by simp; omega)]; simp)
  have st := ax_set tb ⟨w.heap.size + 1 + 1 + 1, 0, none⟩ n cs E (A4 n tb w) (by rw [World.cell?_alloc_at _ _ _ _ (by simp)]; rfl) hb4 hc
  go_enter Tryd.func26, Tryd.ntmps26
  go_wp2
  refine wp_loop_rounds 1 ?_
  rw [rounds_succ]
  go_wp2
  go_ret
  refine ⟨rfl, ?_⟩
  simp [Value.cells]
end

end Go.Fer
