/- Library, part 21 (function values, minus, a string's byte; words of 64 bits as natural numbers; a long division by two digits). No condition: rules alone. -/
import Derived.Test.YthfbfhokmknfnaaDoorTypes
import Derived.Laws.MathBits
set_option linter.all false
namespace Go.Fer
open Go Go.RowKit
section
variable {P : Program} {f : Fr} {w : World} {R : Value → World → Prop} {d : Option Tmp} {T : TypeId} {pos : String} {af : Array Edge} {gd : Option (Nat × Bool)}
theorem opW.makeFn {fn : Fn} {first captured : Array Operand} {vs cs : List Value} (h1 : first.toList.map (ev f) = vs) (h2 : captured.toList.map (ev f) = cs) (h : R (.func fn vs.toArray cs.toArray) w) : opW P f ⟨d, .makeFunc fn first captured, T, pos, af, gd⟩ w R := by
  refine opW.of_run (v := .func fn vs.toArray cs.toArray) (w' := w) ?_ h
  have e1 : first.map (ev f) = vs.toArray := by subst h1; apply Array.ext'; simp
  have e2 : captured.map (ev f) = cs.toArray := by subst h2; apply Array.ext'; simp
  simp [execOp, Instr.makeFunc, e1, e2]
theorem opW.callFn {g : FuncId} [hg : FnT P g] {x : Operand} {args : Array Operand} {ts : Array TypeId} {vs cs : List Value} {R' : Value → World → Prop} (hx : ev f x = .func (.func g) #[] cs.toArray) (hc : Ret P g (vs ++ cs).toArray w R') (hargs : args.toList.map (ev f) = vs) (h : ∀ v w', R' v w' → R v w') :
    opW P f ⟨d, .call { callee := .value x, args := args, argTypes := ts }, T, pos, af, gd⟩ w R := by
  unfold Ret at hc
  have ha : (vs ++ cs).toArray = args.map (ev f) ++ cs.toArray := by subst hargs; apply Array.ext'; simp
  rw [ha] at hc
  have hr : (execOp (ev f) ⟨d, .call { callee := .value x, args := args, argTypes := ts }, T, pos, af, gd⟩).run P w = .ok (.enter g (args.map (ev f) ++ cs.toArray)) w := by
    simp [execOp, resolve, hx, Deferred.ofValue, Go.invoke, run_callFunc hg]
  unfold opW
  rw [hr]
  exact Calls.mono hc fun e w' ⟨v, he, hv⟩ => ⟨v, he, h _ _ hv⟩
/-- what a call of a function value does -/
def FnV (P : Program) (v : Value) (vs : List Value) (w : World) (R : Value → World → Prop) : Prop :=
  ∃ (g : FuncId) (fs cs : List Value), v = .func (.func g) fs.toArray cs.toArray ∧ FnT P g ∧ Ret P g (fs ++ vs ++ cs).toArray w R
theorem opW.callV {x : Operand} {args : Array Operand} {ts : Array TypeId} {v : Value} {vs : List Value} {R' : Value → World → Prop} (hx : ev f x = v) (hi : FnV P v vs w R') (hargs : args.toList.map (ev f) = vs) (h : ∀ v w', R' v w' → R v w') :
    opW P f ⟨d, .call { callee := .value x, args := args, argTypes := ts }, T, pos, af, gd⟩ w R := by
  obtain ⟨g, fs, cs, rfl, hg, hc⟩ := hi
  unfold Ret at hc
  have ha : (fs ++ vs ++ cs).toArray = fs.toArray ++ args.map (ev f) ++ cs.toArray := by subst hargs; apply Array.ext'; simp
  rw [ha] at hc
  have hr : (execOp (ev f) ⟨d, .call { callee := .value x, args := args, argTypes := ts }, T, pos, af, gd⟩).run P w = .ok (.enter g (fs.toArray ++ args.map (ev f) ++ cs.toArray)) w := by
    simp only [execOp, resolve, hx, Deferred.ofValue, Sem.run_bind, Sem.run_pure, Result.andThen_ok, Go.invoke, run_callFunc hg]
  unfold opW
  rw [hr]
  exact Calls.mono hc fun e w' ⟨v, he, hv⟩ => ⟨v, he, h _ _ hv⟩
theorem opW.neg {s : TypeId} {x : Operand} {k : IntKind} {a c : Int} (hx : ev f x = .int k a) (hc : k.wrap (0 - a) = c) (h : R (.int k c) w) : opW P f ⟨d, .unOp .neg s x, T, pos, af, gd⟩ w R := by
  subst hc
  refine opW.of_run (v := .int k (k.wrap (0 - a))) (w' := w) ?_ h
  simp [execOp, hx, Op.unary, Op.intArith]
class StrT (P : Program) (T : TypeId) : Prop where out : P.underlying T = some .string
theorem opW.idxStr {t : TypeId} {x ix : Operand} {k : IntKind} {i : Nat} {s : ByteArray} {b : UInt8} [ht : StrT P t] (hx : ev f x = .string s) (hi : ev f ix = .int k (i : Int)) (hb : s[i]? = some b) (h : R (.int .u8 (b.toNat : Int)) w) : opW P f ⟨d, .index t x ix, T, pos, af, gd⟩ w R := by
  refine opW.of_run (v := .int .u8 (b.toNat : Int)) (w' := w) ?_ h
  simp [execOp, Instr.index, hi, hx, asIntOf, run_underlying ht.out, hb]
end
/-! words as natural numbers -/
theorem nadd {a b : Nat} (h : a + b < 18446744073709551616) : IntKind.u64.wrap ((a : Int) + (b : Int)) = ((a + b : Nat) : Int) := by rw [IntKind.wrap_u64]; omega
theorem nsub {a b : Nat} (h : b ≤ a) (ha : a < 18446744073709551616) : IntKind.u64.wrap ((a : Int) - (b : Int)) = ((a - b : Nat) : Int) := by rw [IntKind.wrap_u64]; omega
theorem nsubM (a b : Nat) (hb : b ≤ 18446744073709551616) : IntKind.u64.wrap ((a : Int) - (b : Int)) = (((a + 18446744073709551616 - b) % 18446744073709551616 : Nat) : Int) := by rw [IntKind.wrap_u64]; omega
theorem nmulM (a b : Nat) : IntKind.u64.wrap ((a : Int) * (b : Int)) = ((a * b % 18446744073709551616 : Nat) : Int) := by rw [IntKind.wrap_u64, ← Int.natCast_mul]; omega
theorem nmul {a b : Nat} (h : a * b < 18446744073709551616) : IntKind.u64.wrap ((a : Int) * (b : Int)) = ((a * b : Nat) : Int) := by rw [nmulM, Nat.mod_eq_of_lt h]
theorem nquo {a b : Nat} (h : a < 18446744073709551616) : IntKind.u64.wrap ((a : Int).tdiv (b : Int)) = ((a / b : Nat) : Int) := by
  rw [Int.tdiv_eq_ediv_of_nonneg (by omega), ← Int.natCast_ediv, IntKind.wrap_u64]
  have := Nat.div_le_self a b
  generalize a / b = z at *
  omega
theorem nand32 {a : Nat} (h : a < 18446744073709551616) : bitsI .and .u64 (a : Int) 4294967295 = ((a % 4294967296 : Nat) : Int) := by
  have h1 := bits_and_u64 a 4294967295 h (by omega)
  rw [show a &&& 4294967295 = a % 4294967296 from Nat.and_two_pow_sub_one_eq_mod a 32] at h1
  exact h1
theorem nshr {a k : Nat} (hk : k ≤ 64) : Int.fdiv (a : Int) (2 ^ (min (Int.toNat (k : Int)) IntKind.u64.bits)) = ((a / 2 ^ k : Nat) : Int) := shr_nat hk
theorem nshl {a k : Nat} (hk : k < 64) (h : a * 2 ^ k < 18446744073709551616) : IntKind.u64.wrap ((a : Int) * 2 ^ (min (Int.toNat (k : Int)) IntKind.u64.bits)) = ((a * 2 ^ k : Nat) : Int) := shl_u64 hk (by simp) (by omega)
theorem nshlM {a k : Nat} (hk : k < 64) : IntKind.u64.wrap ((a : Int) * 2 ^ (min (Int.toNat (k : Int)) IntKind.u64.bits)) = ((a * 2 ^ k % 18446744073709551616 : Nat) : Int) := by
  have : min (Int.toNat (k : Int)) IntKind.u64.bits = k := by simp [IntKind.bits]; omega
  rw [this, IntKind.wrap_u64]
  have e : (a : Int) * 2 ^ k = ((a * 2 ^ k : Nat) : Int) := by simp
  rw [e]; omega
theorem nor {a m k : Nat} (h : a < 2 ^ k) (hm : m * 2 ^ k + a < 18446744073709551616) : bitsI .or .u64 ((m * 2 ^ k : Nat) : Int) (a : Int) = ((m * 2 ^ k + a : Nat) : Int) := by
  rw [bits_or_u64 _ _ (by omega) (by omega), Nat.or_comm, or_add_low _ _ _ h, Nat.add_comm]
theorem rdw_u64 {P : Program} {t : TypeId} [h : IntT P t .u64] : RdW P t U64 (fun _ x => x.n < 18446744073709551616) := by
  intro H enc w fuel cs d ps hr
  obtain ⟨n, rfl, hw⟩ := rd_int h.out hr
  have hb : 0 ≤ n ∧ n ≤ 18446744073709551615 := by simpa [Lit.wf, IntKind.min, IntKind.max, IntKind.signed, IntKind.bits] using hw
  refine ⟨⟨n.toNat⟩, ?_, by show n.toNat < _; omega⟩
  simp [enc_u64]; omega
/-- so many words -/
instance {n : Nat} : Enc (Vector U64 (n + 1)) where
  enc v := v.toArray.map fun c => .int .u64 (c.n : Int)
  sz := n + 1
  pos := by omega
  size_eq v := by simp
  one v u hu := by simp at hu; obtain ⟨c, _, rfl⟩ := hu; rfl
theorem enc_vec64 {n : Nat} (v : Vector U64 (n + 1)) : Enc.enc v = v.toArray.map (fun c => .int .u64 (c.n : Int)) := rfl
theorem at_vec64 {n : Nat} (v : Vector U64 (n + 1)) (i : Nat) (hi : i < n + 1) : (Enc.enc v)[i]? = some (.int .u64 ((v[i].n : Nat) : Int)) := by
  rw [enc_vec64]; simp [hi]
theorem rdw_vec64 {P : Program} {t e n : Nat} [ha : ArrT P t (n + 1) e] [hi : IntT P e .u64] [hs : SizeT P e 1] [ht : SizeT P t (n + 1)] : RdW P t (Vector U64 (n + 1)) (fun _ v => ∀ i (hi : i < n + 1), (v[i]).n < 18446744073709551616) := by
  intro H enc w fuel cs d ps hr
  obtain ⟨hl, fuel', hel⟩ := rd_array ha.out hr
  have c1 : P.cellsOf e = 1 := by unfold Program.cellsOf; rw [hs.out]; rfl
  have c2 : P.cellsOf t = n + 1 := by unfold Program.cellsOf; rw [ht.out]; rfl
  rw [c1] at hel
  rw [c2] at hl
  have key : ∀ i, i < n + 1 → ∃ c : U64, cs[i]? = some (.int .u64 (c.n : Int)) ∧ c.n < 18446744073709551616 := by
    intro i hi'
    obtain ⟨y, hy⟩ := hel i hi'
    obtain ⟨c, hc, hb⟩ := rdw_u64 (P := P) (t := e) H enc w fuel' _ y.1 y.2 hy
    refine ⟨c, ?_, hb⟩
    have := congrArg (fun l : List Value => l[0]?) hc
    simp [List.getElem?_take, List.getElem?_drop, enc_u64] at this
    exact this
  obtain ⟨xs, hxl, hxs⟩ := choose_list key
  refine ⟨⟨xs.toArray, by simpa using hxl⟩, ?_, fun i hi' => ?_⟩
  · apply List.ext_getElem?
    intro i
    simp only [enc_vec64, Array.toList_map, List.getElem?_map]
    by_cases hi' : i < n + 1
    · rw [(hxs i xs[i] (List.getElem?_eq_getElem (by omega))).1]
      simp [show i < xs.length by omega]
    · rw [List.getElem?_eq_none (by omega), List.getElem?_eq_none (by rw [hxl]; omega)]
      rfl
  · exact (hxs i xs[i] (List.getElem?_eq_getElem (by omega))).2
/-! a product of two words -/
theorem split4 (x1 x0 y1 y0 : Nat) : (x1 * 4294967296 + x0) * (y1 * 4294967296 + y0) = x1 * y1 * 18446744073709551616 + (x1 * y0 + x0 * y1) * 4294967296 + x0 * y0 := by grind
theorem mulHi {x y : Nat} (hx : x < 18446744073709551616) (hy : y < 18446744073709551616) :
    (x % 4294967296) * (y % 4294967296) < 18446744073709551616 ∧ (x / 4294967296) * (y % 4294967296) < 18446744073709551616 ∧ (x % 4294967296) * (y / 4294967296) < 18446744073709551616 ∧ (x / 4294967296) * (y / 4294967296) < 18446744073709551616 ∧
    (x / 4294967296) * (y % 4294967296) + (x % 4294967296) * (y % 4294967296) / 4294967296 < 18446744073709551616 ∧
    ((x / 4294967296) * (y % 4294967296) + (x % 4294967296) * (y % 4294967296) / 4294967296) % 4294967296 + (x % 4294967296) * (y / 4294967296) < 18446744073709551616 ∧
    (x / 4294967296) * (y / 4294967296) + ((x / 4294967296) * (y % 4294967296) + (x % 4294967296) * (y % 4294967296) / 4294967296) / 4294967296 < 18446744073709551616 ∧
    (x / 4294967296) * (y / 4294967296) + ((x / 4294967296) * (y % 4294967296) + (x % 4294967296) * (y % 4294967296) / 4294967296) / 4294967296 +
      (((x / 4294967296) * (y % 4294967296) + (x % 4294967296) * (y % 4294967296) / 4294967296) % 4294967296 + (x % 4294967296) * (y / 4294967296)) / 4294967296 < 18446744073709551616 ∧
    (x / 4294967296) * (y / 4294967296) + ((x / 4294967296) * (y % 4294967296) + (x % 4294967296) * (y % 4294967296) / 4294967296) / 4294967296 +
      (((x / 4294967296) * (y % 4294967296) + (x % 4294967296) * (y % 4294967296) / 4294967296) % 4294967296 + (x % 4294967296) * (y / 4294967296)) / 4294967296 = x * y / 18446744073709551616 := by
  obtain ⟨x1, hx1⟩ : ∃ z, z = x / 4294967296 := ⟨_, rfl⟩
  obtain ⟨x0, hx0⟩ : ∃ z, z = x % 4294967296 := ⟨_, rfl⟩
  obtain ⟨y1, hy1⟩ : ∃ z, z = y / 4294967296 := ⟨_, rfl⟩
  obtain ⟨y0, hy0⟩ : ∃ z, z = y % 4294967296 := ⟨_, rfl⟩
  rw [← hx1, ← hx0, ← hy1, ← hy0]
  have b {a c : Nat} (h1 : a ≤ 4294967295) (h2 : c ≤ 4294967295) : a * c ≤ 4294967295 * 4294967295 := Nat.mul_le_mul h1 h2
  have ba := b (a := x1) (c := y1) (by omega) (by omega)
  have bb := b (a := x1) (c := y0) (by omega) (by omega)
  have bc := b (a := x0) (c := y1) (by omega) (by omega)
  have bd := b (a := x0) (c := y0) (by omega) (by omega)
  have e : x * y = x1 * y1 * 18446744073709551616 + (x1 * y0 + x0 * y1) * 4294967296 + x0 * y0 := by
    rw [show x = x1 * 4294967296 + x0 by omega, show y = y1 * 4294967296 + y0 by omega]
    exact split4 x1 x0 y1 y0
  rw [e]
  generalize x1 * y1 = A at *
  generalize x1 * y0 = B at *
  generalize x0 * y1 = C at *
  generalize x0 * y0 = D at *
  refine ⟨by omega, by omega, by omega, by omega, by omega, by omega, by omega, by omega, by omega⟩
/-! one digit of a division -/
theorem dig_start {u un v1 v0 : Nat} (hv : 0 < v1) (hun : un < 4294967296) : (u * 4294967296 + un) / (v1 * 4294967296 + v0) ≤ u / v1 := by
  rw [Nat.le_div_iff_mul_le hv]
  obtain ⟨q, hq⟩ : ∃ q, q = (u * 4294967296 + un) / (v1 * 4294967296 + v0) := ⟨_, rfl⟩
  rw [← hq]
  have h1 : q * (v1 * 4294967296 + v0) ≤ u * 4294967296 + un := hq ▸ Nat.div_mul_le_self _ _
  rw [Nat.mul_add, ← Nat.mul_assoc] at h1
  generalize q * v1 = z at *
  generalize q * v0 = z2 at *
  omega
theorem dig_lt {u un y : Nat} (hu : u < y) (hun : un < 4294967296) : (u * 4294967296 + un) / y < 4294967296 := by
  rw [Nat.div_lt_iff_lt_mul (by omega)]
  have : (u + 1) * 4294967296 ≤ y * 4294967296 := Nat.mul_le_mul_right _ hu
  omega
theorem dig_dec {u un v1 v0 q r : Nat} (hu : u < v1 * 4294967296 + v0) (hun : un < 4294967296) (h : u = q * v1 + r) (hq : (u * 4294967296 + un) / (v1 * 4294967296 + v0) ≤ q)
    (hc : 4294967296 ≤ q ∨ 4294967296 * r + un < q * v0) : (u * 4294967296 + un) / (v1 * 4294967296 + v0) ≤ q - 1 ∧ 1 ≤ q := by
  have h1 := dig_lt hu hun
  have h2 : (u * 4294967296 + un) / (v1 * 4294967296 + v0) < q := by
    rcases hc with hc | hc
    · omega
    · rw [Nat.div_lt_iff_lt_mul (by omega), Nat.mul_add, ← Nat.mul_assoc]
      generalize q * v1 = z at *
      generalize q * v0 = z2 at *
      omega
  generalize (u * 4294967296 + un) / (v1 * 4294967296 + v0) = Q at *
  omega
theorem dig_done {u un v1 v0 q r : Nat} (hu : u < v1 * 4294967296 + v0) (h : u = q * v1 + r) (hq : (u * 4294967296 + un) / (v1 * 4294967296 + v0) ≤ q)
    (hc : q * v0 ≤ 4294967296 * r + un) : q = (u * 4294967296 + un) / (v1 * 4294967296 + v0) := by
  refine Nat.le_antisymm ?_ hq
  rw [Nat.le_div_iff_mul_le (by omega), Nat.mul_add, ← Nat.mul_assoc]
  generalize q * v1 = z at *
  generalize q * v0 = z2 at *
  omega
theorem dig_break {u un v1 v0 q r : Nat} (hv0 : v0 < 4294967296) (hv1 : 0 < v1) (hu : u < v1 * 4294967296 + v0) (h : u = q * v1 + r) (hr : 4294967296 ≤ r) : q * v0 ≤ 4294967296 * r + un := by
  have h1 : q * v1 < 4294967296 * v1 := by
    rw [Nat.mul_comm 4294967296]; generalize q * v1 = z at *; omega
  have h2 : q < 4294967296 := Nat.lt_of_mul_lt_mul_right h1
  have h3 : q * v0 ≤ 4294967295 * 4294967295 := Nat.mul_le_mul (by omega) (by omega)
  omega
/-- what is left behind a digit -/
theorem dig_rest {u un y : Nat} (hy : y < 18446744073709551616) (hu : u < y) : ((u * 4294967296 % 18446744073709551616 + un) % 18446744073709551616 + 18446744073709551616 - (u * 4294967296 + un) / y * y % 18446744073709551616) % 18446744073709551616 = (u * 4294967296 + un) % y := by
  obtain ⟨X, hX⟩ : ∃ X, X = u * 4294967296 + un := ⟨_, rfl⟩
  rw [← hX]
  have h1 := Nat.div_add_mod' X y
  have h2 := Nat.mod_lt X (show 0 < y by omega)
  have h3 : (u * 4294967296 % 18446744073709551616 + un) % 18446744073709551616 = X % 18446744073709551616 := by omega
  rw [h3]
  clear h3 hX
  generalize X / y * y = z at *
  generalize X % y = r at *
  omega
/-- two digits make the quotient of two words -/
theorem div_two {hi lo d s : Nat} (hs : s < 64) (hd : d * 2 ^ s < 18446744073709551616) (hh : hi < d) (hl : lo < 18446744073709551616) {U W Q1 R1 Q0 R0 : Nat}
    (hU : U = hi * 2 ^ s + lo / 2 ^ (64 - s)) (hW : W = lo * 2 ^ s % 18446744073709551616)
    (h1 : Q1 = (U * 4294967296 + W / 4294967296) / (d * 2 ^ s)) (h2 : R1 = (U * 4294967296 + W / 4294967296) % (d * 2 ^ s))
    (h3 : Q0 = (R1 * 4294967296 + W % 4294967296) / (d * 2 ^ s)) (h4 : R0 = (R1 * 4294967296 + W % 4294967296) % (d * 2 ^ s)) :
    Q1 * 4294967296 + Q0 = (hi * 18446744073709551616 + lo) / d ∧ R0 / 2 ^ s = (hi * 18446744073709551616 + lo) % d := by
  have hp : 0 < 2 ^ s := Nat.two_pow_pos s
  have hd0 : 0 < d := by omega
  have hy : 0 < d * 2 ^ s := Nat.mul_pos hd0 hp
  have eM : (18446744073709551616 : Nat) = 2 ^ (64 - s) * 2 ^ s := by rw [← Nat.pow_add, show 64 - s + s = 64 by omega]
  have e0 : lo * 2 ^ s / 18446744073709551616 = lo / 2 ^ (64 - s) := by rw [eM, Nat.mul_div_mul_right _ _ hp]
  have e1 : (hi * 18446744073709551616 + lo) * 2 ^ s = U * 18446744073709551616 + W := by
    have := Nat.div_add_mod (lo * 2 ^ s) 18446744073709551616
    rw [hU, hW, ← e0, Nat.add_mul, Nat.mul_right_comm]
    generalize hi * 2 ^ s = z at *
    generalize lo * 2 ^ s = z2 at *
    omega
  have e2 := Nat.div_add_mod (U * 4294967296 + W / 4294967296) (d * 2 ^ s)
  rw [← h1, ← h2, Nat.mul_comm] at e2
  have e3 := Nat.div_add_mod (R1 * 4294967296 + W % 4294967296) (d * 2 ^ s)
  rw [← h3, ← h4, Nat.mul_comm] at e3
  have e4 : (hi * 18446744073709551616 + lo) * 2 ^ s = (Q1 * 4294967296 + Q0) * (d * 2 ^ s) + R0 := by
    rw [e1, Nat.add_mul, Nat.mul_right_comm]
    generalize Q1 * (d * 2 ^ s) = z at *
    generalize Q0 * (d * 2 ^ s) = z2 at *
    omega
  have hR0 : R0 < d * 2 ^ s := h4 ▸ Nat.mod_lt _ hy
  have hq : (hi * 18446744073709551616 + lo) * 2 ^ s / (d * 2 ^ s) = Q1 * 4294967296 + Q0 := by
    rw [e4, Nat.mul_comm _ (d * 2 ^ s), Nat.mul_add_div hy, Nat.div_eq_of_lt hR0, Nat.add_zero]
  have hr : (hi * 18446744073709551616 + lo) * 2 ^ s % (d * 2 ^ s) = R0 := by
    rw [e4, Nat.mul_comm _ (d * 2 ^ s), Nat.mul_add_mod, Nat.mod_eq_of_lt hR0]
  rw [Nat.mul_div_mul_right _ _ hp] at hq
  rw [Nat.mul_mod_mul_right] at hr
  refine ⟨hq.symm, ?_⟩
  rw [← hr, Nat.mul_div_cancel _ hp]
theorem div_U {hi lo d s : Nat} (hs : s < 64) (hh : hi < d) (hl : lo < 18446744073709551616) : hi * 2 ^ s + lo / 2 ^ (64 - s) < d * 2 ^ s ∧ lo / 2 ^ (64 - s) < 2 ^ s := by
  have h1 : lo / 2 ^ (64 - s) < 2 ^ s := by
    rw [Nat.div_lt_iff_lt_mul (Nat.two_pow_pos _), ← Nat.pow_add, show s + (64 - s) = 64 by omega]; exact hl
  have h2 : (hi + 1) * 2 ^ s ≤ d * 2 ^ s := Nat.mul_le_mul_right _ hh
  rw [Nat.add_mul, Nat.one_mul] at h2
  omega
theorem sumH_or (a n : Nat) (ha : a < 18446744073709551616) (hn : n < 18446744073709551616) : bitsI .or .u64 (((a + n) % 18446744073709551616 : Nat) : Int) (IntKind.u64.wrap (0 - (((a + n) / 18446744073709551616 : Nat) : Int))) = ((sumH a n : Nat) : Int) := by
  unfold sumH
  by_cases h : a + n < 18446744073709551616
  · rw [if_pos h, Nat.mod_eq_of_lt h, Nat.div_eq_of_lt h]
    have := bits_or_u64 (a + n) 0 h (by omega)
    rw [show IntKind.u64.wrap (0 - ((0 : Nat) : Int)) = ((0 : Nat) : Int) from by decide, this, Nat.or_zero]
  · rw [if_neg h, show (a + n) / 18446744073709551616 = 1 by omega]
    have h2 := bits_or_u64 ((a + n) % 18446744073709551616) 18446744073709551615 (by omega) (by omega)
    rw [show IntKind.u64.wrap (0 - ((1 : Nat) : Int)) = ((18446744073709551615 : Nat) : Int) from by decide, h2]
    congr 1
    have h3 : (a + n) % 18446744073709551616 ||| 18446744073709551615 = 18446744073709551615 := by
      have h4 := Nat.or_lt_two_pow (n := 64) (x := (a + n) % 18446744073709551616) (y := 18446744073709551615) (by omega) (by omega)
      have h5 : 18446744073709551615 ≤ (a + n) % 18446744073709551616 ||| 18446744073709551615 := Nat.right_le_or
      omega
    exact h3
end Go.Fer
