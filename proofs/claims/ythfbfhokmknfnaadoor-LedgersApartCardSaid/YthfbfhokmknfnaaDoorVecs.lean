/- Library, part 10 (arrays of bytes: keys, hashes, signatures). No condition: rules alone. -/
import Derived.Test.YthfbfhokmknfnaaDoorOpen
set_option linter.all false
namespace Go.Fer
open Go Go.RowKit Go.ChangeShapes Go.WideShapes Go.ChangeAt

abbrev By (n : Nat) := Vector UInt8 n
instance {n : Nat} : Enc (Vector UInt8 (n + 1)) where
  enc v := v.toArray.map fun c => .int .u8 c.toNat
  sz := n + 1
  pos := by omega
  size_eq v := by simp
  one v u hu := by simp at hu; obtain ⟨c, _, rfl⟩ := hu; rfl
theorem enc_vec {n : Nat} (v : Vector UInt8 (n + 1)) : Enc.enc v = v.toArray.map (fun c => .int .u8 c.toNat) := rfl
theorem enc_vec_size {n : Nat} (v : Vector UInt8 (n + 1)) : (Enc.enc v).size = n + 1 := Enc.size_eq v
theorem flat_u8 (l : List UInt8) : flat l = l.map fun c => Value.int .u8 c.toNat := by
  induction l with
  | nil => rfl
  | cons c l ih => rw [flat_cons, ih]; rfl
theorem enc_vec_flat {n : Nat} (v : Vector UInt8 (n + 1)) : (Enc.enc v).toList = flat v.toList := by rw [flat_u8]; simp [enc_vec, Vector.toList]
theorem enc_vec_inj {n : Nat} {a b : Vector UInt8 (n + 1)} (h : Enc.enc a = Enc.enc b) : a = b := by
  apply Vector.ext
  intro i hi
  have := congrArg (fun x : Array Value => x[i]?) h
  simp [enc_vec, hi] at this
  exact u8_eq_of (by omega)
theorem rdw_vec {P : Program} {t e n : Nat} [ha : ArrT P t (n + 1) e] [hi : IntT P e .u8] [hs : SizeT P e 1] [ht : SizeT P t (n + 1)] : RdW P t (Vector UInt8 (n + 1)) (fun _ _ => True) := by
  intro H enc w fuel cs d ps hr
  obtain ⟨hl, fuel', hel⟩ := rd_array ha.out hr
  have c1 : P.cellsOf e = 1 := by unfold Program.cellsOf; rw [hs.out]; rfl
  have c2 : P.cellsOf t = n + 1 := by unfold Program.cellsOf; rw [ht.out]; rfl
  rw [c1] at hel
  rw [c2] at hl
  have key : ∀ i, i < n + 1 → ∃ c : UInt8, cs[i]? = some (.int .u8 (c.toNat : Int)) := by
    intro i hi'
    obtain ⟨y, hy⟩ := hel i hi'
    obtain ⟨c, hc, _⟩ := rdw_u8 (P := P) (t := e) H enc w fuel' _ y.1 y.2 hy
    refine ⟨c, ?_⟩
    have := congrArg (fun l : List Value => l[0]?) hc
    simp [List.getElem?_take, List.getElem?_drop, enc_u8] at this
    exact this
  obtain ⟨xs, hxl, hxs⟩ := choose_list key
  refine ⟨⟨xs.toArray, by simpa using hxl⟩, ?_, trivial⟩
  apply List.ext_getElem?
  intro i
  simp only [enc_vec, Array.toList_map, List.getElem?_map]
  by_cases hi' : i < n + 1
  · rw [hxs i xs[i] (List.getElem?_eq_getElem (by omega))]
    simp [show i < xs.length by omega]
  · rw [List.getElem?_eq_none (by omega), List.getElem?_eq_none (by rw [hxl]; omega)]
    rfl
section
variable {P : Program} {f : Fr} {w : World} {R : Value → World → Prop} {d : Option Tmp} {T : TypeId} {pos : String} {af : Array Edge} {gd : Option (Nat × Bool)}
/-- 'a[:h]' on an array behind a pointer -/
theorem opW.cutArr {x : Operand} {hi : Option Operand} {t n E sz b h' : Nat} [ht : ArrT P t n E] [hz : SizeT P E sz] (hx : ev f x = .pointer (some ⟨b, 0, none⟩))
    (hh : (match hi with | some o => ∃ k, ev f o = .int k (h' : Int) | none => h' = n) ∧ h' ≤ n) (h : R (.slice (some ⟨b, 0, none⟩) h' n) w) : opW P f ⟨d, .slice t x none hi none, T, pos, af, gd⟩ w R := by
  refine opW.of_run (v := .slice (some ⟨b, 0, none⟩) h' n) (w' := w) ?_ h
  obtain ⟨hh1, hh2⟩ := hh
  have hb : (Instr.sliceBounds false n n none (hi.map (ev f)) none).run P w = .ok (0, h', n) w := by
    unfold Instr.sliceBounds
    cases hi with
    | none => simp only at hh1; subst hh1; simp
    | some o =>
      obtain ⟨k, hk⟩ := hh1
      have : (h' : Int) ≤ (n : Int) := by omega
      have this2 : h' ≤ n := by omega
      simp [Instr.sliceBound, hk, asIntOf, this2]
  simp only [execOp, Instr.sliceAt, Sem.run_bind, run_underlying ht.out, Result.andThen_ok, hx, Instr.sureAddr, Sem.run_pure, Option.map_none, hb, run_sizeOf' hz]
  simp [add_spot]
theorem SlR.arr {n b h : Nat} {v : Vector UInt8 (n + 1)} {E : TypeId} (hb : w.heap[b]? = some (.cells (Enc.enc v) E (0, 0))) (hh : h ≤ n + 1) (hn : n + 1 ≤ maxLen) : SlR w (.slice (some ⟨b, 0, none⟩) h (n + 1)) (v.toList.take h) := by
  have hl : (v.toList.take h).length = h := by simp; omega
  refine ⟨some ⟨b, 0, none⟩, n + 1, by rw [hl], by omega, hn, by simp, fun ad had _ => ?_⟩
  cases had
  refine ⟨rfl, fun j u hu => ?_⟩
  rw [cell_blk hb, Nat.zero_add, ← Array.getElem?_toList, enc_vec_flat]
  rw [flat_take, List.getElem?_take] at hu
  split at hu
  · exact hu
  · cases hu
end
end Go.Fer
