/- Library, part 14 (places): elements of arrays, stores into own slices, making slices. No condition: rules alone. -/
import Derived.Test.YthfbfhokmknfnaaDoorMaps
set_option linter.all false
namespace Go.Fer
open Go Go.RowKit

section
variable {α : Type} [Enc α]
theorem flat_set_get (xs : List α) (i : Nat) (y : α) (hi : i < xs.length) (j : Nat) :
    (flat (xs.set i y))[j]? = if i * Enc.sz α ≤ j ∧ j < i * Enc.sz α + Enc.sz α then (Enc.enc y)[j - i * Enc.sz α]? else (flat xs)[j]? := by
  have e1 : flat (xs.set i y) = flat (xs.take i) ++ ((Enc.enc y).toList ++ flat (xs.drop (i + 1))) := by
    rw [List.set_eq_take_append_cons_drop, if_pos hi, flat_append, flat_cons]
  have e2 : flat xs = flat (xs.take i) ++ ((Enc.enc xs[i]).toList ++ flat (xs.drop (i + 1))) := by
    conv => lhs; rw [← List.take_append_drop i xs, List.drop_eq_getElem_cons hi]
    rw [flat_append, flat_cons]
  have l1 : (flat (xs.take i)).length = i * Enc.sz α := by rw [flat_length, List.length_take, Nat.min_eq_left (by omega)]
  have l2 : (Enc.enc y).toList.length = Enc.sz α := by rw [Array.length_toList, Enc.size_eq]
  have l3 : (Enc.enc xs[i]).toList.length = Enc.sz α := by rw [Array.length_toList, Enc.size_eq]
  rw [e1, e2]
  by_cases h1 : j < i * Enc.sz α
  · rw [if_neg (by omega), List.getElem?_append_left (by omega), List.getElem?_append_left (by omega)]
  · rw [List.getElem?_append_right (by omega), List.getElem?_append_right (l₁ := flat (xs.take i)) (by omega), l1]
    by_cases h2 : j < i * Enc.sz α + Enc.sz α
    · rw [if_pos (by omega), List.getElem?_append_left (by omega), Array.getElem?_toList]
    · rw [if_neg (by omega), List.getElem?_append_right (l₁ := (Enc.enc y).toList) (by omega), List.getElem?_append_right (l₁ := (Enc.enc xs[i]).toList) (by omega), l2, l3]
end
section
variable {α : Type} [Enc α] {P : Program} {f : Fr} {w w0 : World} {S : List Ent} {R : Value → World → Prop} {d : Option Tmp} {T : TypeId} {pos : String} {af : Array Edge} {gd : Option (Nat × Bool)}
/-- a store into an element of an own slice: into a part of it -/
theorem opW.storeOwn {E' E sz : Nat} {x y : Operand} {v u : Value} {xs : List α} {i off : Nat} {y' : α} [hs : SizeT P E' sz] (hS : St w0 S w) (he : Has (ownE v E xs) S) (hi : i < xs.length) (hx : ev f x = ptrAdd (elemP v i (Enc.sz α)) off) (hy : ev f y = u)
    (hu : u.cells.size = sz) (hle : off + sz ≤ Enc.sz α) (h1 : ∀ c ∈ u.cells.toList, c.oneCell' = true) (henc : spl (Enc.enc (xs[i]'hi)) off u.cells = Enc.enc y')
    (h : ∀ w', (∀ S', Turn (ownE v E xs) (ownE v E (xs.set i y')) S S' → St w0 S' w') → R undef w') : opW P f ⟨d, .store E' x y, T, pos, af, gd⟩ w R := by
  have ho := hS.own he
  rcases ho with ⟨_, rfl⟩ | ⟨g, cap, cur, rfl, hg, hc1, hc2, hc3, hc4⟩
  · simp at hi
  have hmul : i * Enc.sz α + Enc.sz α ≤ xs.length * Enc.sz α := by
    have := Nat.mul_le_mul_right (Enc.sz α) (show i + 1 ≤ xs.length from hi)
    rw [Nat.succ_mul] at this; exact this
  have hmul2 : xs.length * Enc.sz α ≤ cap * Enc.sz α := Nat.mul_le_mul_right _ hc1
  have hx' : ev f x = .pointer (some ⟨g, i * Enc.sz α + off, none⟩) := by rw [hx]; simp [elemP, ptrAdd]
  have hr := run_storeVar_blk (P := P) hs hg (i * Enc.sz α + off) u hu (by omega) h1
  have hspl : (cur.toList.take (i * Enc.sz α + off) ++ u.cells.toList ++ cur.toList.drop (i * Enc.sz α + off + u.cells.toList.length)).toArray = spl cur (i * Enc.sz α + off) u.cells := by
    unfold spl
    apply Array.ext'
    simp only [Array.toList_append, Array.toList_extract, List.extract_eq_take_drop, Nat.sub_zero, List.drop_zero, Array.length_toList]
    congr 1
    rw [List.take_of_length_le (by simp)]
  rw [hspl] at hr
  refine opW.of_skip (w' := w.setRow g (spl cur (i * Enc.sz α + off) u.cells)) ?_ (h _ fun S' hT => St.turn ?_ ?_ ?_ hS hT)
  · simp [execOp, Instr.storeAt, hx', hy, Instr.sureAddr, hr]
  · rw [ownE_F]
    exact ⟨rfl, rfl, rfl, by simp [World.setRow], fun k _ hk => setRow_other w g k _ (fun e => hk (by simp [Value.ownBlock, e]))⟩
  · rw [ownE_A]
    refine .inr ⟨g, cap, spl cur (i * Enc.sz α + off) u.cells, by simp, setRow_heap w g cur _ E _ hg, by simpa using hc1, hc2, ?_, ?_⟩
    · unfold spl; simp; omega
    · apply List.ext_getElem?
      intro j
      rw [flat_set_get xs i y' hi j, List.getElem?_take, Array.getElem?_toList, List.length_set]
      have hfl := congrArg (fun l => l[j]?) hc4
      simp only [List.getElem?_take, Array.getElem?_toList] at hfl
      by_cases hj : j < xs.length * Enc.sz α
      · rw [if_pos hj] at hfl ⊢
        rw [spl_get cur u.cells _ (by omega) j]
        by_cases hin : i * Enc.sz α ≤ j ∧ j < i * Enc.sz α + Enc.sz α
        · rw [if_pos hin, ← henc, spl_get _ u.cells off (by rw [Enc.size_eq]; omega)]
          have e3 := flat_get xs i xs[i] (List.getElem?_eq_getElem hi) (j - i * Enc.sz α) ((Enc.enc xs[i])[j - i * Enc.sz α]'(by rw [Enc.size_eq]; omega)) (Array.getElem?_eq_getElem _)
          rw [show i * Enc.sz α + (j - i * Enc.sz α) = j by omega] at e3
          by_cases hin2 : i * Enc.sz α + off ≤ j ∧ j < i * Enc.sz α + off + u.cells.size
          · rw [if_pos hin2, if_pos (by omega)]; congr 1; omega
          · rw [if_neg hin2, if_neg (by omega), hfl, e3]
            exact (Array.getElem?_eq_getElem _).symm
        · rw [if_neg hin, if_neg (by omega)]; exact hfl
      · rw [if_neg hj, if_neg (by omega)]
        exact (List.getElem?_eq_none (by rw [flat_length]; omega)).symm
  · rw [ownE_F, ownE_F]; intro k hk; exact .inl hk
/-- an element of an array behind a pointer -/
theorem opW.idxArr {x ix : Operand} {t n E sz b o : Nat} {k : IntKind} {i : Int} [ht : ArrT P t n E] [hz : SizeT P E sz] (hx : ev f x = .pointer (some ⟨b, o, none⟩)) (hi : ev f ix = .int k i) (hb : 0 ≤ i ∧ i < (n : Int))
    (h : R (.pointer (some ⟨b, o + i.toNat * sz, none⟩)) w) : opW P f ⟨d, .indexAddr t x ix, T, pos, af, gd⟩ w R := by
  refine opW.of_run (v := .pointer (some ⟨b, o + i.toNat * sz, none⟩)) (w' := w) ?_ h
  simp [execOp, Instr.indexAt, hi, asIntOf, run_underlying ht.out, hx, Instr.sureAddr, hb, run_sizeOf' hz, add_spot]
end
/-! values written out -/
def vz (n : Nat) : Vector UInt8 n := Vector.replicate n 0
theorem enc_vz (n : Nat) : Enc.enc (vz (n + 1)) = Array.replicate (n + 1) (.int .u8 0) := by simp [vz, enc_vec]
theorem enc_vset {n : Nat} (v : Vector UInt8 (n + 1)) (i : Nat) (hi : i < n + 1) (c : UInt8) : Enc.enc (v.set i c hi) = (Enc.enc v).setIfInBounds i (.int .u8 c.toNat) := by
  apply Array.ext_getElem?
  intro j
  simp only [enc_vec, Vector.toArray_set, Array.getElem?_map, Array.getElem?_setIfInBounds, Array.getElem?_set, Array.size_map]
  by_cases h : i = j
  · subst h; simp [hi]
  · simp [h]
section
variable {P : Program} {f : Fr} {w w0 : World} {S : List Ent} {R : Value → World → Prop} {d : Option Tmp} {T : TypeId} {pos : String} {af : Array Edge} {gd : Option (Nat × Bool)}
theorem opW.idxV {α : Type} [Enc α] {x ix : Operand} {v : Value} {t E : Nat} {k : IntKind} {i : Int} {xs : List α} [ht : SliceT P t E] [hz : SizeT P E (Enc.sz α)] (hx : ev f x = v) (hs : SlR w v xs) (hi : ev f ix = .int k i) (hb : 0 ≤ i ∧ i < (xs.length : Int))
    (h : R (elemP v i.toNat (Enc.sz α)) w) : opW P f ⟨d, .indexAddr t x ix, T, pos, af, gd⟩ w R := by
  subst hx; exact opW.idx hs hi hb h
theorem opW.loadV {E : TypeId} {x : Operand} {pv v : Value} (hx : ev f x = pv) (hl : Ld P E w pv v) (h : R v w) : opW P f ⟨d, .load E x, T, pos, af, gd⟩ w R := by
  subst hx; exact opW.load hl h
theorem args1 {x : Operand} {a : Value} (h : ev f x = a) : (#[x] : Array Operand).toList.map (ev f) = [a] := by simp [h]
theorem args2 {x y : Operand} {a b : Value} (h : ev f x = a) (h2 : ev f y = b) : (#[x, y] : Array Operand).toList.map (ev f) = [a, b] := by simp [h, h2]
theorem args3 {x y z : Operand} {a b c : Value} (h : ev f x = a) (h2 : ev f y = b) (h3 : ev f z = c) : (#[x, y, z] : Array Operand).toList.map (ev f) = [a, b, c] := by simp [h, h2, h3]
theorem args4 {x y z u : Operand} {a b c e : Value} (h : ev f x = a) (h2 : ev f y = b) (h3 : ev f z = c) (h4 : ev f u = e) : (#[x, y, z, u] : Array Operand).toList.map (ev f) = [a, b, c, e] := by simp [h, h2, h3, h4]
theorem opW.lookupZ {κ ν : Type} [DecidableEq κ] [KV κ] {t K E r : Nat} {z0 u : ν} {x ix : Operand} {k : κ} {vv : ν → Value} {kvs : List (κ × ν)} [hm : MapT P t K E] [hk : KeyT P K κ] (hz : ZeroT P E (vv z0)) (hM : MapB w r vv kvs) (hx : ev f x = .map (some r)) (hi : ev f ix = KV.kv k)
    (hu : (aget k kvs).getD z0 = u) (h : R (vv u) w) : opW P f ⟨d, .lookup t x ix false, T, pos, af, gd⟩ w R := by
  refine opW.lookup (z := vv z0) hM hx hi ?_
  subst hu
  have e : ((aget k kvs).map vv).getD (vv z0) = vv ((aget k kvs).getD z0) := by cases aget k kvs <;> rfl
  rw [e]; exact h
theorem opW.eqlB {s t : TypeId} [hb : BoolT P s] {x y : Operand} {a b : Bool} (hx : ev f x = .bool a) (hy : ev f y = .bool b) (h : R (.bool (a == b)) w) : opW P f ⟨d, .binOp .eql s x y t, T, pos, af, gd⟩ w R := by
  refine opW.of_run (v := .bool (a == b)) (w' := w) ?_ h
  have e1 : eqGuard .eql s x y (.bool a) (.bool b) = pure () := rfl
  have e2 : binOp .eql s (.bool a) (.bool b) = (do pure (.bool (← Op.equal s (.bool a) (.bool b)))) := rfl
  simp only [execOp, hx, hy, e1, e2, Sem.run_bind, Sem.run_pure, Result.andThen_ok, run_equal_bool w s a b hb.out]
theorem opW.neqB {s t : TypeId} [hb : BoolT P s] {x y : Operand} {a b : Bool} (hx : ev f x = .bool a) (hy : ev f y = .bool b) (h : R (.bool (!(a == b))) w) : opW P f ⟨d, .binOp .neq s x y t, T, pos, af, gd⟩ w R := by
  refine opW.of_run (v := .bool (!(a == b))) (w' := w) ?_ h
  have e1 : eqGuard .neq s x y (.bool a) (.bool b) = pure () := rfl
  have e2 : binOp .neq s (.bool a) (.bool b) = (do pure (.bool (!(← Op.equal s (.bool a) (.bool b))))) := rfl
  simp only [execOp, hx, hy, e1, e2, Sem.run_bind, Sem.run_pure, Result.andThen_ok, run_equal_bool w s a b hb.out]
theorem opW.storeE {α : Type} [Enc α] {E T' b : Nat} {x y : Operand} {r : α} {cs : Array Value} [hs : SizeT P E (Enc.sz α)] (hS : St w0 S w) (hx : ev f x = .pointer (some ⟨b, 0, none⟩)) (hy : ev f y = .agg (Enc.enc r)) (he : Has (blkE b cs T') S) (ho : cs.size = Enc.sz α)
    (h : ∀ w', (∀ S', Turn (blkE b cs T') (blkE b (Enc.enc r) T') S S' → St w0 S' w') → R undef w') : opW P f ⟨d, .store E x y, T, pos, af, gd⟩ w R :=
  opW.storeAll (c := Enc.enc r) hS hx (by rw [hy]; rfl) he (Enc.size_eq r) ho (Enc.one r) h
theorem opW.buildE {α : Type} [Enc α] {s : TypeId} {parts : Array (Nat × Operand)} {zs ps : List (Array Value)} {r : α} [hs : StructT P s zs] (henc : Enc.enc r = joinA ps) (hps : setParts zs (parts.toList.map fun (i, x) => (i, ev f x)) = ps) (hf : partsFit zs (parts.toList.map fun (i, x) => (i, ev f x)))
    (h : R (.agg (Enc.enc r)) w) : opW P f ⟨d, .build s parts, T, pos, af, gd⟩ w R := by
  refine opW.build hf ?_
  rw [hps, ← henc]; exact h
theorem opW.buildVec {n s E : TypeId} {parts : Array (Nat × Operand)} {zc : Array Value} {k : Vector UInt8 (n + 1)} [hs : ArrT P s (n + 1) E] [hz : ZeroT P s (.agg zc)] [he : SizeT P E 1]
    (hk : arrSet zc (parts.toList.map fun (i, x) => (i, ev f x)) = Enc.enc k) (hf : ∀ p ∈ parts.toList.map (fun (i, x) => (i, ev f x)), p.1 < zc.size ∧ p.2.cells = #[p.2])
    (h : R (.agg (Enc.enc k)) w) : opW P f ⟨d, .build s parts, T, pos, af, gd⟩ w R := by
  refine opW.buildA hf ?_
  rw [hk]; exact h
end
theorem tmod_nat (a k : Nat) : ((a : Int)).tmod (k : Int) = ((a % k : Nat) : Int) := by rw [Int.tmod_eq_emod_of_nonneg (by omega)]; omega
end Go.Fer
