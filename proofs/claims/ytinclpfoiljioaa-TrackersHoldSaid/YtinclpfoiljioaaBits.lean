/- Library, part 17 (calls that the model answers itself). No condition: rules alone. -/
import Derived.Test.YtinclpfoiljioaaObjs
import Derived.Laws.Externs
set_option linter.all false
namespace Go.Fer
open Go Go.RowKit
section
variable {P : Program} {f : Fr} {w : World} {R : Value → World → Prop} {d : Option Tmp} {T : TypeId} {pos : String} {af : Array Edge} {gd : Option (Nat × Bool)}
theorem opW.callX {g : FuncId} {args : Array Operand} {ts : Array TypeId} {vs : List Value} {v : Value} (hr : (callFunc g vs.toArray).run P w = .ok (.value v) w) (hargs : args.toList.map (ev f) = vs) (h : R v w) :
    opW P f ⟨d, .call { callee := .value (.func g), args := args, argTypes := ts }, T, pos, af, gd⟩ w R := by
  have ha : args.map (ev f) = vs.toArray := by subst hargs; apply Array.ext'; simp
  refine opW.of_run (v := v) (w' := w) ?_ h
  simp [execOp, resolve, ev, Deferred.ofValue, invoke, ha, hr]
theorem run_add64' {fn : Func} {g : FuncId} (hf : P.funcs[g]? = some fn) (hname : (fn.name == "runtime.NumGoroutine") = false)
    (hb : fn.body.isNone = true) (hn : Extern.findNext fn = none) (he : Extern.find fn = some Go.add64Entry) (x y : Nat) (w : World) :
    (callFunc g #[.int .u64 (x : Int), .int .u64 (y : Int), .int .u64 0]).run P w = .ok (.value (.tuple #[.int .u64 (((x + y) % 18446744073709551616 : Nat) : Int), .int .u64 (((x + y) / 18446744073709551616 : Nat) : Int)])) w := by
  rw [Go.run_callFunc_extern hf hname hb hn he, Go.run_add64 x y 0 (by omega) (by omega) (by omega) (by omega)]
  simp only [Result.andThen]
  congr 5 <;> omega
end
/-- a number of 64 bits, as an element -/
structure U64 where
  n : Nat
  deriving DecidableEq
instance : Enc U64 where
  enc s := #[.int .u64 (s.n : Int)]
  sz := 1
  pos := by omega
  size_eq _ := rfl
  one s u hu := by simp at hu; subst hu; rfl
theorem enc_u64 (s : U64) : Enc.enc s = #[.int .u64 (s.n : Int)] := rfl
theorem wrap_u64_nat (a : Nat) : IntKind.u64.wrap (a : Int) = ((a % 18446744073709551616 : Nat) : Int) := by rw [IntKind.wrap_u64]; omega
theorem wrap_u64_add (a b : Nat) : IntKind.u64.wrap ((a : Int) + (b : Int)) = (((a + b) % 18446744073709551616 : Nat) : Int) := by rw [← Int.natCast_add]; exact wrap_u64_nat _
/-- a sum that is held -/
def sumH (a b : Nat) : Nat := if a + b < 18446744073709551616 then a + b else 18446744073709551615
theorem sumH_lt (a b : Nat) : sumH a b < 18446744073709551616 := by unfold sumH; split <;> omega
theorem sumH_cap (a b c : Nat) : sumH (min a 18446744073709551615) (min b 18446744073709551615) = min (a + b) 18446744073709551615 := by unfold sumH; split <;> omega
end Go.Fer
