/- Library, part 17 (calls that the model answers itself). No condition: rules alone. -/
import Derived.Test.YthfbfhokmknfnaaDoorObjs
import Derived.Laws.Externs
set_option linter.all false
namespace Go.Fer
open Go Go.RowKit
section
variable {P : Program} {f : Fr} {w : World} {R : Value → World → Prop} {d : Option Tmp} {T : TypeId} {pos : String} {af : Array Edge} {gd : Option (Nat × Bool)}
theorem opW.callX {g : FuncId} {args : Array Operand} {ts : Array TypeId} {vs : List Value} {v : Value} (hr : (callFunc g vs.toArray).run P w = .ok (.value v) w) (hargs : args.toList.map (ev f) = vs) (h : R v w) :
    opW P f ⟨d, .call { callee := .value (.func g), args := args, argTypes := ts }, T, pos, af, gd⟩ w R := by
  have ha : args.map (ev f) = vs.toArray := by subst hargs; apply Array.ext'; simp
  refine opW.of_run (v := v) (w' := w) ?_ h
  simp [execOp, resolve, ev, Deferred.ofValue, invoke, ha, hr]
theorem run_add64' {fn : Func} {g : FuncId} (hf : P.funcs[g]? = some fn) (hname : (fn.name == "runtime.NumGoroutine") = false)
    (hb : fn.body.isNone = true) (hn : Extern.findNext fn = none) (he : Extern.find fn = some Go.add64Entry) (x y : Nat) (w : World) :
    (callFunc g #[.int .u64 (x : Int), .int .u64 (y : Int), .int .u64 0]).run P w = .ok (.value (.tuple #[.int .u64 (((x + y) % 18446744073709551616 : Nat) : Int), .int .u64 (((x + y) / 18446744073709551616 : Nat) : Int)])) w := by
  rw [Go.run_callFunc_extern hf hname hb hn he, Go.run_add64 x y 0 (by omega) (by omega) (by omega) (by omega)]
  simp only [Result.andThen]
  congr 5 <;> omega
end
/-- a number of 64 bits, as an element -/
structure U64 where
  n : Nat
  deriving DecidableEq
instance : Enc U64 where
  enc s := #[.int .u64 (s.n : Int)]
  sz := 1
  pos := by omega
  size_eq _ := rfl
  one s u hu := by simp at hu; subst hu; rfl
theorem enc_u64 (s : U64) : Enc.enc s = #[.int .u64 (s.n : Int)] := rfl
theorem wrap_u64_nat (a : Nat) : IntKind.u64.wrap (a : Int) = ((a % 18446744073709551616 : Nat) : Int) := by rw [IntKind.wrap_u64]; omega
theorem wrap_u64_add (a b : Nat) : IntKind.u64.wrap ((a : Int) + (b : Int)) = (((a + b) % 18446744073709551616 : Nat) : Int) := by rw [← Int.natCast_add]; exact wrap_u64_nat _
/-- a sum that is held -/
def sumH (a b : Nat) : Nat := if a + b < 18446744073709551616 then a + b else 18446744073709551615
theorem sumH_lt (a b : Nat) : sumH a b < 18446744073709551616 := by unfold sumH; split <;> omega
theorem sumH_cap (a b c : Nat) : sumH (min a 18446744073709551615) (min b 18446744073709551615) = min (a + b) 18446744073709551615 := by unfold sumH; split <;> omega
/-- two of a kind, in an array -/
structure P2 (α : Type) where
  a : α
  b : α
instance {α : Type} [Enc α] : Enc (P2 α) where
  enc x := Enc.enc x.a ++ Enc.enc x.b
  sz := Enc.sz α + Enc.sz α
  pos := by have := Enc.pos (α := α); omega
  size_eq x := by simp [Enc.size_eq]
  one x u hu := by
    simp only [Array.toList_append, List.mem_append] at hu
    rcases hu with h | h
    · exact Enc.one x.a u h
    · exact Enc.one x.b u h
theorem P2.ex_a {α : Type} [Enc α] (x : P2 α) : (Enc.enc x).extract 0 (0 + Enc.sz α) = Enc.enc x.a := by
  show (Enc.enc x.a ++ Enc.enc x.b).extract 0 (0 + Enc.sz α) = _
  rw [Nat.zero_add]
  apply Array.ext'
  simp [← Enc.size_eq x.a]
theorem P2.ex_b {α : Type} [Enc α] (x : P2 α) : (Enc.enc x).extract (Enc.sz α) (Enc.sz α + Enc.sz α) = Enc.enc x.b := by
  show (Enc.enc x.a ++ Enc.enc x.b).extract (Enc.sz α) (Enc.sz α + Enc.sz α) = _
  apply Array.ext'
  have h1 : (Enc.enc x.a).toList.length = Enc.sz α := by simp [Enc.size_eq]
  have h2 : (Enc.enc x.b).toList.length = Enc.sz α := by simp [Enc.size_eq]
  rw [Array.toList_extract, Array.toList_append, List.extract_eq_drop_take]
  rw [List.drop_append_of_le_length (by omega), List.drop_of_length_le (by omega), List.nil_append, List.take_of_length_le (by omega)]
theorem rdw_p2 {P : Program} {t e : TypeId} {α : Type} [Enc α] {I : World → α → Prop} [ha : ArrT P t 2 e] (hf : RdW P e α I) [h1 : SizeT P e (Enc.sz α)] [h2 : SizeT P t (Enc.sz α + Enc.sz α)] :
    RdW P t (P2 α) (fun w x => I w x.a ∧ I w x.b) := by
  intro H enc w fuel cs d ps hr
  obtain ⟨hl, fuel', hel⟩ := rd_array ha.out hr
  rw [cells_of h1] at hel
  rw [cells_of h2] at hl
  obtain ⟨y0, g0⟩ := hel 0 (by omega)
  obtain ⟨y1, g1⟩ := hel 1 (by omega)
  obtain ⟨a, ea, ia⟩ := hf H enc w fuel' _ y0.1 y0.2 g0
  obtain ⟨b, eb, ib⟩ := hf H enc w fuel' _ y1.1 y1.2 g1
  refine ⟨⟨a, b⟩, ?_, ia, ib⟩
  show _ = (Enc.enc a ++ Enc.enc b).toList
  rw [Array.toList_append, ← ea, ← eb]
  simp only [Nat.zero_mul, List.drop_zero, Nat.one_mul]
  rw [List.take_of_length_le (l := cs.drop (Enc.sz α)) (by simp; omega), List.take_append_drop]
end Go.Fer
