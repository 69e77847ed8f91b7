/- Library, part 3 (operations): one rule for each operation. No condition: rules alone. -/
import Derived.Test.YthfbfhokmknfnaaDoorMem
set_option linter.all false
namespace Go.Fer
open Go Go.RowKit

/-! what a type is, by instance -/
class SizeT (P : Program) (T : TypeId) (sz : outParam Nat) : Prop where out : (P.info? T).map (·.size) = some sz
class BytesT (P : Program) (T : TypeId) (by_ : outParam Nat) : Prop where out : (P.info? T).map (·.bytes) = some by_
class ZeroT (P : Program) (T : TypeId) (z : outParam Value) : Prop where out : (P.info? T).bind (·.zero) = some z
def aggB (P : Program) (T : TypeId) : Option Bool := (P.underlying T).map fun | .struct _ | .array _ _ => true | _ => false
class ScalT (P : Program) (T : TypeId) : Prop where out : aggB P T = some false
class AggT (P : Program) (T : TypeId) : Prop where out : aggB P T = some true
class SliceT (P : Program) (T : TypeId) (E : outParam TypeId) : Prop where out : P.underlying T = some (.slice E)
class ArrT (P : Program) (T : TypeId) (n : outParam Nat) (E : outParam TypeId) : Prop where out : P.underlying T = some (.array n E)
class PtrT (P : Program) (T : TypeId) (E : outParam TypeId) : Prop where out : P.underlying T = some (.pointer E)
class MapT (P : Program) (T : TypeId) (K : outParam TypeId) (E : outParam TypeId) : Prop where out : P.underlying T = some (.map K E)
class IntT (P : Program) (T : TypeId) (k : outParam IntKind) : Prop where out : P.underlying T = some (.int k)
class BoolT (P : Program) (T : TypeId) : Prop where out : P.underlying T = some .bool
/-- a function that has a text -/
class FnT (P : Program) (g : FuncId) : Prop where out : (P.funcs[g]?).map (fun fn => fn.body.isSome && decide (fn.name ≠ "runtime.NumGoroutine")) = some true
/-- field i of struct S: its offset; its type has cells -/
class FieldT (P : Program) (S : TypeId) (i : Nat) (off : outParam Nat) : Prop where
  out : ∃ fs f, P.underlying S = some (.struct fs) ∧ fs[i]? = some f ∧ f.offset = off ∧ ∃ k, (P.info? f.type).map (·.size) = some (k + 1)

section
variable {P : Program} {w : World}

theorem run_sizeOf' {T sz : Nat} (h : SizeT P T sz) (w : World) : (sizeOf T).run P w = .ok sz w := by
  have h := h.out
  cases hi : P.info? T with
  | none => simp [hi] at h
  | some i => simp [hi] at h; subst h; simp [sizeOf, typeInfo, hi]
theorem run_typeInfo' {T : Nat} {i : TypeInfo} (hi : P.info? T = some i) (w : World) : (typeInfo T).run P w = .ok i w := by simp [typeInfo, hi]
theorem run_zeroValue' {T : Nat} {z : Value} (h : ZeroT P T z) (w : World) : (zeroValue T).run P w = .ok z w := by
  have h := h.out
  cases hi : P.info? T with
  | none => simp [hi] at h
  | some i => simp [hi] at h; simp [zeroValue, typeInfo, hi, h]
theorem run_isAgg {T : Nat} {b : Bool} (h : aggB P T = some b) (w : World) : (isAgg T).run P w = .ok b w := by
  unfold aggB at h
  cases hu : P.underlying T with
  | none => simp [hu] at h
  | some d =>
    simp [hu] at h
    simp only [isAgg, Sem.run_bind, run_underlying hu, Result.andThen_ok]
    subst h
    cases d <;> rfl

/-! addresses -/
theorem add_spot (b o n : Nat) : (⟨b, o, none⟩ : Addr).add n = ⟨b, o + n, none⟩ := by
  unfold Addr.add; split <;> simp_all
def ptrAdd (pv : Value) (n : Nat) : Value := match pv with | .pointer (some a) => .pointer (some ⟨a.block, a.off + n, none⟩) | _ => undef
def elemP (v : Value) (i sz : Nat) : Value := match v with | .slice (some a) _ _ => .pointer (some ⟨a.block, a.off + i * sz, none⟩) | _ => undef
/-- a pointer to plain cells -/
def IsP (pv : Value) : Prop := ∃ b o, pv = .pointer (some ⟨b, o, none⟩)
theorem IsP.mk (b o : Nat) : IsP (.pointer (some ⟨b, o, none⟩)) := ⟨b, o, rfl⟩
theorem IsP.add {pv : Value} (h : IsP pv) (n : Nat) : IsP (ptrAdd pv n) := by obtain ⟨b, o, rfl⟩ := h; exact ⟨b, o + n, rfl⟩
theorem ptrAdd_add {pv : Value} (a b : Nat) : ptrAdd (ptrAdd pv a) b = ptrAdd pv (a + b) := by
  unfold ptrAdd
  cases pv with
  | pointer p => cases p <;> simp [Nat.add_assoc, undef]
  | _ => rfl

/-- the cells at a pointer (from there on) -/
def Pt (w : World) (pv : Value) (x : Array Value) : Prop :=
  ∃ b o, pv = .pointer (some ⟨b, o, none⟩) ∧ ∀ (j : Nat) (u : Value), x[j]? = some u → w.cell? ⟨b, o + j, none⟩ = some u
theorem Pt.isP {pv : Value} {x : Array Value} (h : Pt w pv x) : IsP pv := by obtain ⟨b, o, rfl, _⟩ := h; exact ⟨b, o, rfl⟩
theorem Pt.bel {w' : World} {pv : Value} {x : Array Value} (hb : Bel w w') (h : Pt w pv x) : Pt w' pv x := by
  obtain ⟨b, o, rfl, h⟩ := h
  exact ⟨b, o, rfl, fun j u hu => hb.cell (h j u hu)⟩

theorem run_loadVar_agg {T sz : Nat} (ha : AggT P T) (hs : SizeT P T sz) (b o : Nat) (c : Array Value) (hc : c.size = sz)
    (h : ∀ (j : Nat) (u : Value), c[j]? = some u → w.cell? ⟨b, o + j, none⟩ = some u) : (loadVar T ⟨b, o, none⟩).run P w = .ok (.agg c) w := by
  simp only [loadVar, Sem.run_bind, run_isAgg ha.out, Result.andThen_ok, if_true, run_sizeOf' hs]
  have hl : c.toList.length = sz := by simpa using hc
  have := run_loadCells_list (P := P) w ⟨b, o, none⟩ c.toList (by intro j v hv; rw [add_spot]; exact h j v (by simpa using hv))
  rw [hl] at this
  simp [this]
theorem run_loadVar_scal {T : Nat} (ha : ScalT P T) (b o : Nat) (v : Value) (h : w.cell? ⟨b, o, none⟩ = some v) : (loadVar T ⟨b, o, none⟩).run P w = .ok v w := by
  simp [loadVar, run_isAgg ha.out, h]

/-- the three ways to what a load gives -/
theorem Ld.ptA {T sz : Nat} [ha : AggT P T] [hs : SizeT P T sz] {pv : Value} {x c : Array Value} (hp : Pt w pv x) (off : Nat) (hc : x.extract off (off + sz) = c) (hle : off + sz ≤ x.size) :
    Ld P T w (ptrAdd pv off) (.agg c) := by
  unfold Ld
  obtain ⟨b, o, rfl, h⟩ := hp
  refine ⟨_, rfl, run_loadVar_agg ha hs b (o + off) c (by subst hc; simp; omega) fun j u hu => ?_⟩
  subst hc
  have := h (off + j) u (by
    rw [Array.getElem?_extract] at hu
    split at hu
    · exact hu
    · cases hu)
  rw [Nat.add_assoc]; exact this
theorem Ld.pt1 {T : Nat} [ha : ScalT P T] {pv v : Value} {x : Array Value} (hp : Pt w pv x) (off : Nat) (hc : x[off]? = some v) : Ld P T w (ptrAdd pv off) v := by
  unfold Ld
  obtain ⟨b, o, rfl, h⟩ := hp
  exact ⟨_, rfl, run_loadVar_scal ha b (o + off) v (h off v hc)⟩
theorem Ld.ptA0 {T sz : Nat} [ha : AggT P T] [hs : SizeT P T sz] {pv : Value} {x : Array Value} (hp : Pt w pv x) (hle : x.size = sz) : Ld P T w pv (.agg x) := by
  unfold Ld
  obtain ⟨b, o, rfl, h⟩ := hp
  exact ⟨_, rfl, run_loadVar_agg ha hs b o x hle h⟩
theorem Ld.pt10 {T : Nat} [ha : ScalT P T] {pv v : Value} {x : Array Value} (hp : Pt w pv x) (hc : x[0]? = some v) : Ld P T w pv v := by
  unfold Ld
  obtain ⟨b, o, rfl, h⟩ := hp
  exact ⟨_, rfl, run_loadVar_scal ha b o v (h 0 v hc)⟩

theorem Pt.ld {T : Nat} [ScalT P T] {pv v : Value} {x : Array Value} (hp : Pt w pv x) (hc : x[0]? = some v) : Ld P T w pv v := Ld.pt10 hp hc
theorem Pt.ldA {T sz : Nat} [AggT P T] [SizeT P T sz] {pv : Value} {x : Array Value} (hp : Pt w pv x) (hle : x.size = sz) : Ld P T w pv (.agg x) := Ld.ptA0 hp hle
theorem cell_blk {b j : Nat} {cs : Array Value} {T : TypeId} (h : w.heap[b]? = some (.cells cs T (0, 0))) : w.cell? ⟨b, j, none⟩ = cs[j]? := by simp [World.cell?, h]
theorem Pt.blk {b : Nat} {cs : Array Value} {T : TypeId} (h : w.heap[b]? = some (.cells cs T (0, 0))) : Pt w (.pointer (some ⟨b, 0, none⟩)) cs :=
  ⟨b, 0, rfl, fun j u hu => by rw [cell_blk h, Nat.zero_add]; exact hu⟩
section
variable {w0 : World} {S : List Ent}
theorem St.pt {b : Nat} {cs : Array Value} {E : TypeId} (h : St w0 S w) (he : Has (blkE b cs E) S) : Pt w (.pointer (some ⟨b, 0, none⟩)) cs := Pt.blk (h.blk he)
/-- a whole local variable -/
theorem St.ldA {T sz b : Nat} [AggT P T] [SizeT P T sz] {cs : Array Value} {E : TypeId} (h : St w0 S w) (he : Has (blkE b cs E) S) (hc : cs.size = sz) : Ld P T w (.pointer (some ⟨b, 0, none⟩)) (.agg cs) := Ld.ptA0 (h.pt he) hc
/-- a field of a local variable -/
theorem St.ldF {T sz b o : Nat} [AggT P T] [SizeT P T sz] {cs c : Array Value} {E : TypeId} (h : St w0 S w) (he : Has (blkE b cs E) S) (hc : cs.extract o (o + sz) = c) (hle : o + sz ≤ cs.size) : Ld P T w (.pointer (some ⟨b, o, none⟩)) (.agg c) := by
  have := Ld.ptA (P := P) (T := T) (h.pt he) o hc hle
  simpa [ptrAdd] using this
theorem St.ld1 {T b o : Nat} [ScalT P T] {cs : Array Value} {v : Value} {E : TypeId} (h : St w0 S w) (he : Has (blkE b cs E) S) (hc : cs[o]? = some v) : Ld P T w (.pointer (some ⟨b, o, none⟩)) v := by
  have := Ld.pt1 (P := P) (T := T) (h.pt he) o hc
  simpa [ptrAdd] using this
end
end

/-! the rules -/
section
variable {P : Program} {f : Fr} {w : World} {R : Value → World → Prop} {d : Option Tmp} {T : TypeId} {pos : String} {af : Array Edge} {gd : Option (Nat × Bool)}

theorem opW.of_run {o : Oper} {v : Value} {w' : World} (hr : (execOp (ev f) o).run P w = .ok (.value v) w') (h : R v w') : opW P f o w R := by unfold opW; rw [hr]; exact h
theorem opW.of_skip {o : Oper} {w' : World} (hr : (execOp (ev f) o).run P w = .ok .skip w') (h : R undef w') : opW P f o w R := by unfold opW; rw [hr]; exact h

theorem opW.move {x : Operand} (h : R (ev f x) w) : opW P f ⟨d, .move x, T, pos, af, gd⟩ w R := opW.of_run rfl h
theorem opW.assign {x : Operand} (h : R (ev f x) w) : opW P f ⟨d, .assign x, T, pos, af, gd⟩ w R := opW.of_run rfl h
theorem opW.pick {c a b : Operand} {t : Bool} (hc : ev f c = .bool t) (h : R (cond t (ev f a) (ev f b)) w) : opW P f ⟨d, .pick c a b, T, pos, af, gd⟩ w R := by
  refine opW.of_run (v := cond t (ev f a) (ev f b)) (w' := w) ?_ h
  cases t <;> simp [execOp, hc, asBool]
theorem opW.box {E : TypeId} {x : Operand} {w0 : World} {S : List Ent} (hS : St w0 S w)
    (h : ∀ b w', Bel w w' → St w0 (blkE b (ev f x).cells E :: S) w' → R (.pointer (some ⟨b, 0, none⟩)) w') : opW P f ⟨d, .box E x, T, pos, af, gd⟩ w R := by
  refine opW.of_run (v := .pointer (some ⟨w.heap.size, 0, none⟩)) (w' := w.alloc (.cells (ev f x).cells E)) rfl (h _ _ (Bel.alloc w _) (hS.alloc _ _))
theorem opW.alloc {E : TypeId} {z : Value} [hz : ZeroT P E z] {w0 : World} {S : List Ent} (hS : St w0 S w)
    (h : ∀ b w', Bel w w' → St w0 (blkE b z.cells E :: S) w' → R (.pointer (some ⟨b, 0, none⟩)) w') : opW P f ⟨d, .alloc E, T, pos, af, gd⟩ w R := by
  refine opW.of_run (v := .pointer (some ⟨w.heap.size, 0, none⟩)) (w' := w.alloc (.cells z.cells E)) ?_ (h _ _ (Bel.alloc w _) (hS.alloc _ _))
  simp [execOp, Instr.alloc, run_zeroValue' hz, newVar, newRow]
theorem opW.load {E : TypeId} {x : Operand} {v : Value} (hl : Ld P E w (ev f x) v) (h : R v w) : opW P f ⟨d, .load E x, T, pos, af, gd⟩ w R := by
  unfold Ld at hl
  obtain ⟨ad, hp, hr⟩ := hl
  refine opW.of_run (v := v) (w' := w) ?_ h
  simp [execOp, Instr.loadAt, hp, Instr.sureAddr, hr]
theorem opW.nilCheck {x : Operand} {pv : Value} (hx : ev f x = pv) (hp : IsP pv) (h : R pv w) : opW P f ⟨d, .nilCheck x, T, pos, af, gd⟩ w R := by
  obtain ⟨b, o, rfl⟩ := hp
  refine opW.of_run (v := .pointer (some ⟨b, o, none⟩)) (w' := w) ?_ h
  simp [execOp, hx]
theorem opW.fieldAddr {s i off : Nat} [hf : FieldT P s i off] {x : Operand} {pv : Value} (hx : ev f x = pv) (hp : IsP pv) (h : R (ptrAdd pv off) w) : opW P f ⟨d, .fieldAddr s x i, T, pos, af, gd⟩ w R := by
  obtain ⟨b, o, rfl⟩ := hp
  obtain ⟨fs, fl, hu, hfl, hoff, k, hk⟩ := hf.out
  refine opW.of_run (v := ptrAdd (.pointer (some ⟨b, o, none⟩)) off) (w' := w) ?_ h
  have hs : (sizeOf fl.type).run P w = .ok (k + 1) w := run_sizeOf' ⟨hk⟩ w
  simp [execOp, Instr.fieldAt, run_underlying hu, hfl, hx, Instr.sureAddr, fieldPlace, hs, add_spot, ptrAdd, hoff]
theorem run_callFunc {g : FuncId} (hg : FnT P g) (args : Array Value) (w : World) : (callFunc g args).run P w = .ok (.enter g args) w := by
  have hg := hg.out
  cases hf : P.funcs[g]? with
  | none => simp [hf] at hg
  | some fn =>
    simp only [hf, Option.map_some, Option.some.injEq, Bool.and_eq_true, decide_eq_true_eq] at hg
    have hb : fn.body.isNone = false := by cases h : fn.body <;> simp_all
    have hb2 : fn.body ≠ none := by intro h; simp [h] at hb
    simp [callFunc, hf, hg.2, hb2]
theorem opW.call {g : FuncId} [hg : FnT P g] {args : Array Operand} {ts : Array TypeId} {vs : List Value} {R' : Value → World → Prop} (hc : Ret P g vs.toArray w R') (hargs : args.toList.map (ev f) = vs) (h : ∀ v w', R' v w' → R v w') :
    opW P f ⟨d, .call { callee := .value (.func g), args := args, argTypes := ts }, T, pos, af, gd⟩ w R := by
  unfold Ret at hc
  have ha : args.map (ev f) = vs.toArray := by subst hargs; apply Array.ext'; simp
  rw [← ha] at hc
  have hr : (execOp (ev f) ⟨d, .call { callee := .value (.func g), args := args, argTypes := ts }, T, pos, af, gd⟩).run P w = .ok (.enter g (args.map (ev f))) w := by
    simp [execOp, resolve, ev, Deferred.ofValue, invoke, run_callFunc hg]
  unfold opW
  rw [hr]
  exact Calls.mono hc fun e w' ⟨v, he, hv⟩ => ⟨v, he, h _ _ hv⟩
theorem opW.extract {x : Operand} {i : Nat} {vs : Array Value} {v : Value} (hx : ev f x = .tuple vs) (hv : vs[i]? = some v) (h : R v w) : opW P f ⟨d, .extract x i, T, pos, af, gd⟩ w R := by
  refine opW.of_run (v := v) (w' := w) ?_ h
  simp [execOp, hx, Instr.extract, hv]
theorem opW.len {x : Operand} {S E n c : Nat} [hs : SliceT P S E] {a : Option Addr} (hx : ev f x = .slice a n c) (h : R (.int .i64 n) w) :
    opW P f ⟨d, .call { callee := .builtin .len, args := #[x], argTypes := #[S] }, T, pos, af, gd⟩ w R := by
  refine opW.of_run (v := .int .i64 n) (w' := w) ?_ h
  simp [execOp, resolve, invoke, builtin, Builtin.len_, hx, run_underlying hs.out, goInt]

/-! numbers -/
theorem opW.conv {s t : TypeId} {k j : IntKind} {x : Operand} {n m : Int} [hs : IntT P s j] [ht : IntT P t k] (hx : ev f x = .int j n) (hm : k.wrap n = m) (h : R (.int k m) w) :
    opW P f ⟨d, .convert s t x, T, pos, af, gd⟩ w R := by
  subst hm
  refine opW.of_run (v := .int k (k.wrap n)) (w' := w) ?_ h
  simp [execOp, convert, run_underlying hs.out, run_underlying ht.out, hx, Conv.intToInt]

theorem run_eqGuard_int (op : BinOp) (t : TypeId) (x y : Operand) (k j : IntKind) (a b : Int) (w : World) : (eqGuard op t x y (.int k a) (.int j b)).run P w = .ok () w := by
  unfold eqGuard; cases op <;> rfl

theorem opW.bin {op : BinOp} {s t : TypeId} {x y : Operand} {k j : IntKind} {a b : Int} {v : Value} (hx : ev f x = .int k a) (hy : ev f y = .int j b)
    (hv : (binOp op s (.int k a) (.int j b)).run P w = .ok v w) (h : R v w) : opW P f ⟨d, .binOp op s x y t, T, pos, af, gd⟩ w R := by
  refine opW.of_run (v := v) (w' := w) ?_ h
  simp [execOp, hx, hy, run_eqGuard_int, hv]

theorem opW.lss {s t : TypeId} {x y : Operand} {k : IntKind} {a b : Int} (hx : ev f x = .int k a) (hy : ev f y = .int k b) (h : R (.bool (decide (a < b))) w) : opW P f ⟨d, .binOp .lss s x y t, T, pos, af, gd⟩ w R :=
  opW.bin hx hy (by simp [binOp, Op.intCmp]) h
theorem opW.leq {s t : TypeId} {x y : Operand} {k : IntKind} {a b : Int} (hx : ev f x = .int k a) (hy : ev f y = .int k b) (h : R (.bool (decide (a ≤ b))) w) : opW P f ⟨d, .binOp .leq s x y t, T, pos, af, gd⟩ w R :=
  opW.bin hx hy (by simp [binOp, Op.intCmp]) h
theorem opW.gtr {s t : TypeId} {x y : Operand} {k : IntKind} {a b : Int} (hx : ev f x = .int k a) (hy : ev f y = .int k b) (h : R (.bool (decide (b < a))) w) : opW P f ⟨d, .binOp .gtr s x y t, T, pos, af, gd⟩ w R :=
  opW.bin hx hy (by simp [binOp, Op.intCmp]) h
theorem opW.geq {s t : TypeId} {x y : Operand} {k : IntKind} {a b : Int} (hx : ev f x = .int k a) (hy : ev f y = .int k b) (h : R (.bool (decide (b ≤ a))) w) : opW P f ⟨d, .binOp .geq s x y t, T, pos, af, gd⟩ w R :=
  opW.bin hx hy (by simp [binOp, Op.intCmp]) h
theorem opW.eql {s t : TypeId} {x y : Operand} {k : IntKind} {a b : Int} (hx : ev f x = .int k a) (hy : ev f y = .int k b) (h : R (.bool (decide (a = b))) w) : opW P f ⟨d, .binOp .eql s x y t, T, pos, af, gd⟩ w R :=
  opW.bin hx hy (by simp [binOp, Op.intCmp]; rfl) h
theorem opW.neq {s t : TypeId} {x y : Operand} {k : IntKind} {a b : Int} (hx : ev f x = .int k a) (hy : ev f y = .int k b) (h : R (.bool (!decide (a = b))) w) : opW P f ⟨d, .binOp .neq s x y t, T, pos, af, gd⟩ w R :=
  opW.bin hx hy (by simp [binOp, Op.intCmp]; rfl) h
theorem opW.add {s t : TypeId} {x y : Operand} {k : IntKind} {a b c : Int} (hx : ev f x = .int k a) (hy : ev f y = .int k b) (hc : k.wrap (a + b) = c) (h : R (.int k c) w) : opW P f ⟨d, .binOp .add s x y t, T, pos, af, gd⟩ w R :=
  opW.bin hx hy (by subst hc; simp [binOp, Op.intArith]) h
theorem opW.sub {s t : TypeId} {x y : Operand} {k : IntKind} {a b c : Int} (hx : ev f x = .int k a) (hy : ev f y = .int k b) (hc : k.wrap (a - b) = c) (h : R (.int k c) w) : opW P f ⟨d, .binOp .sub s x y t, T, pos, af, gd⟩ w R :=
  opW.bin hx hy (by subst hc; simp [binOp, Op.intArith]) h
theorem opW.mul {s t : TypeId} {x y : Operand} {k : IntKind} {a b c : Int} (hx : ev f x = .int k a) (hy : ev f y = .int k b) (hc : k.wrap (a * b) = c) (h : R (.int k c) w) : opW P f ⟨d, .binOp .mul s x y t, T, pos, af, gd⟩ w R :=
  opW.bin hx hy (by subst hc; simp [binOp, Op.intArith]) h
theorem opW.quo {s t : TypeId} {x y : Operand} {k : IntKind} {a b c : Int} (hx : ev f x = .int k a) (hy : ev f y = .int k b) (hb : b ≠ 0) (hc : k.wrap (a.tdiv b) = c) (h : R (.int k c) w) : opW P f ⟨d, .binOp .quo s x y t, T, pos, af, gd⟩ w R :=
  opW.bin hx hy (by subst hc; simp [binOp, Op.intDiv, hb]) h
theorem opW.rem {s t : TypeId} {x y : Operand} {k : IntKind} {a b c : Int} (hx : ev f x = .int k a) (hy : ev f y = .int k b) (hb : b ≠ 0) (hc : a.tmod b = c) (h : R (.int k c) w) : opW P f ⟨d, .binOp .rem s x y t, T, pos, af, gd⟩ w R :=
  opW.bin hx hy (by subst hc; simp [binOp, Op.intDiv, hb]) h
theorem opW.shl {s t : TypeId} {x y : Operand} {k j : IntKind} {a b c : Int} (hx : ev f x = .int k a) (hy : ev f y = .int j b) (hb : 0 ≤ b) (hc : k.wrap (a * 2 ^ (min b.toNat k.bits)) = c) (h : R (.int k c) w) : opW P f ⟨d, .binOp .shl s x y t, T, pos, af, gd⟩ w R :=
  opW.bin hx hy (by subst hc; simp [binOp, Op.shift, Int.not_lt.2 hb]) h
theorem opW.shr {s t : TypeId} {x y : Operand} {k j : IntKind} {a b c : Int} (hx : ev f x = .int k a) (hy : ev f y = .int j b) (hb : 0 ≤ b) (hc : a.fdiv (2 ^ (min b.toNat k.bits)) = c) (h : R (.int k c) w) : opW P f ⟨d, .binOp .shr s x y t, T, pos, af, gd⟩ w R :=
  opW.bin hx hy (by subst hc; simp [binOp, Op.shift, Int.not_lt.2 hb]) h
def bitsI (op : BinOp) (k : IntKind) (a b : Int) : Int :=
  let x := BitVec.ofInt k.bits a
  let y := BitVec.ofInt k.bits b
  match op with
  | .and => k.wrap (x &&& y).toNat
  | .or => k.wrap (x ||| y).toNat
  | .xor => k.wrap (x ^^^ y).toNat
  | .andNot => k.wrap (x &&& ~~~y).toNat
  | _ => 0
theorem opW.and {s t : TypeId} {x y : Operand} {k : IntKind} {a b c : Int} (hx : ev f x = .int k a) (hy : ev f y = .int k b) (hc : bitsI .and k a b = c) (h : R (.int k c) w) : opW P f ⟨d, .binOp .and s x y t, T, pos, af, gd⟩ w R :=
  opW.bin hx hy (by subst hc; simp [binOp, Op.intBits, bitsI]) h
theorem opW.or {s t : TypeId} {x y : Operand} {k : IntKind} {a b c : Int} (hx : ev f x = .int k a) (hy : ev f y = .int k b) (hc : bitsI .or k a b = c) (h : R (.int k c) w) : opW P f ⟨d, .binOp .or s x y t, T, pos, af, gd⟩ w R :=
  opW.bin hx hy (by subst hc; simp [binOp, Op.intBits, bitsI]) h
theorem opW.xor {s t : TypeId} {x y : Operand} {k : IntKind} {a b c : Int} (hx : ev f x = .int k a) (hy : ev f y = .int k b) (hc : bitsI .xor k a b = c) (h : R (.int k c) w) : opW P f ⟨d, .binOp .xor s x y t, T, pos, af, gd⟩ w R :=
  opW.bin hx hy (by subst hc; simp [binOp, Op.intBits, bitsI]) h
theorem opW.andNot {s t : TypeId} {x y : Operand} {k : IntKind} {a b c : Int} (hx : ev f x = .int k a) (hy : ev f y = .int k b) (hc : bitsI .andNot k a b = c) (h : R (.int k c) w) : opW P f ⟨d, .binOp .andNot s x y t, T, pos, af, gd⟩ w R :=
  opW.bin hx hy (by subst hc; simp [binOp, Op.intBits, bitsI]) h
theorem opW.not {s : TypeId} {x : Operand} {a : Bool} (hx : ev f x = .bool a) (h : R (.bool (!a)) w) : opW P f ⟨d, .unOp .not s x, T, pos, af, gd⟩ w R := by
  refine opW.of_run (v := .bool (!a)) (w' := w) ?_ h
  simp [execOp, hx, Op.unary]

/-! what is decided: numbers within their kind -/
theorem wrap_i64 {n : Int} (h : -9223372036854775808 ≤ n ∧ n ≤ 9223372036854775807) : IntKind.i64.wrap n = n := by
  simp [IntKind.wrap, IntKind.bits, IntKind.signed]; omega
theorem wrap_u64 {n : Int} (h : 0 ≤ n ∧ n ≤ 18446744073709551615) : IntKind.u64.wrap n = n := by
  simp [IntKind.wrap, IntKind.bits, IntKind.signed]; omega
theorem wrap_u8 {n : Int} (h : 0 ≤ n ∧ n ≤ 255) : IntKind.u8.wrap n = n := by
  simp [IntKind.wrap, IntKind.bits, IntKind.signed]; omega
theorem wrap_u16 {n : Int} (h : 0 ≤ n ∧ n ≤ 65535) : IntKind.u16.wrap n = n := by
  simp [IntKind.wrap, IntKind.bits, IntKind.signed]; omega
theorem wrap_u32 {n : Int} (h : 0 ≤ n ∧ n ≤ 4294967295) : IntKind.u32.wrap n = n := by
  simp [IntKind.wrap, IntKind.bits, IntKind.signed]; omega
theorem wrap_i32 {n : Int} (h : -2147483648 ≤ n ∧ n ≤ 2147483647) : IntKind.i32.wrap n = n := by
  simp [IntKind.wrap, IntKind.bits, IntKind.signed]; omega
theorem wrap_u8_mod (n : Int) : IntKind.u8.wrap n = n % 256 := by simp [IntKind.wrap, IntKind.bits, IntKind.signed]
theorem wrap_u64_mod (n : Int) : IntKind.u64.wrap n = n % 18446744073709551616 := by simp [IntKind.wrap, IntKind.bits, IntKind.signed]
end
end Go.Fer
