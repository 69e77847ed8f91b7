/- Library, part 13 (equal keys; own maps): no condition: rules alone. -/
import Derived.Test.YthfbfhokmknfnaaDoorOwns
import Derived.MapKept
import Derived.Stop.BytesEq
set_option linter.all false
namespace Go.Fer
open Go Go.RowKit

/-! equality of arrays and structs -/
class EqGT (P : Program) (T : TypeId) : Prop where out : P.eqGuardType P.depth T = false
class EqT (P : Program) (T : TypeId) (α : Type) [Enc α] [DecidableEq α] (m : outParam Nat) : Prop where
  run : ∀ (w : World) (d : Nat), m ≤ d → ∀ (x y : α), (Op.equalIn d T (.agg (Enc.enc x)) (.agg (Enc.enc y))).run P w = .ok (decide (x = y)) w
  le : m ≤ 1000
theorem enc_vec_cell {n : Nat} (v : Vector UInt8 (n + 1)) : Enc.enc v = (v.toList.map Extern.Stop.cell).toArray := by
  apply Array.ext'
  simp [enc_vec, Vector.toList, Extern.Stop.cell]
class SameN (a b : Nat) : Prop where out : a = b
instance {a : Nat} : SameN a a := ⟨rfl⟩
theorem eqT_vec {P : Program} {T e n : Nat} (ha : ArrT P T (n + 1) e) (hi : IntT P e .u8) (hs : SizeT P e 1) : EqT P T (Vector UInt8 (n + 1)) 2 where
  le := by omega
  run w d hd x y := by
    obtain ⟨d, rfl⟩ : ∃ d', d = d' + 2 := ⟨d - 2, by omega⟩
    rw [enc_vec_cell, enc_vec_cell]
    rw [run_equalIn_bytes w d T e (n + 1) ha.out hi.out (fun w => run_sizeOf' hs w) x.toList y.toList (by simp) (by simp)]
    congr 1
    rw [Bool.eq_iff_iff]
    simp [← Vector.toList_inj]
instance {P : Program} {T e n N : Nat} [ha : ArrT P T N e] [hn : SameN N (n + 1)] [hi : IntT P e .u8] [hs : SizeT P e 1] : EqT P T (Vector UInt8 (n + 1)) 2 := eqT_vec (hn.out ▸ ha) hi hs
theorem run_part_agg {P : Program} {T sz : Nat} [ha : AggT P T] [hs : SizeT P T sz] (w : World) (cs : Array Value) (o : Nat) : (part T cs o).run P w = .ok (.agg (cs.extract o (o + sz))) w := by
  simp [part, run_isAgg ha.out, run_sizeOf' hs]
theorem run_part_scal {P : Program} {T : Nat} [ha : ScalT P T] (w : World) {cs : Array Value} {o : Nat} {v : Value} (h : cs[o]? = some v) : (part T cs o).run P w = .ok v w := by
  simp [part, run_isAgg ha.out, h]
/-- the fields of a struct, one by one -/
theorem run_eqFields_agg {P : Program} {w : World} {d : Nat} {xs ys : Array Value} {f : Field} {fs : List Field} {T o sz : Nat} {α : Type} [Enc α] [DecidableEq α] {m : Nat} [he : EqT P T α m] [AggT P T] [SizeT P T sz] {a b : α} {r : Bool}
    (hd : m ≤ d) (hT : f.type = T) (ho : f.offset = o) (hn : f.name ≠ "_") (hx : xs.extract o (o + sz) = Enc.enc a) (hy : ys.extract o (o + sz) = Enc.enc b)
    (hr : (Op.eqFields d xs ys fs).run P w = .ok r w) : (Op.eqFields d xs ys (f :: fs)).run P w = .ok (decide (a = b) && r) w := by
  subst hT; subst ho
  simp only [Op.eqFields, hn, ne_eq, not_false_eq_true, if_true, Sem.run_bind, run_part_agg (sz := sz) w xs, run_part_agg (sz := sz) w ys, Result.andThen_ok, hx, hy, he.run w d hd]
  cases decide (a = b) <;> simp [hr]
theorem run_eqFields_bool {P : Program} {w : World} {d : Nat} {xs ys : Array Value} {f : Field} {fs : List Field} {T o : Nat} [hb : BoolT P T] [ScalT P T] {a b r : Bool}
    (hd : 1 ≤ d) (hT : f.type = T) (ho : f.offset = o) (hn : f.name ≠ "_") (hx : xs[o]? = some (.bool a)) (hy : ys[o]? = some (.bool b))
    (hr : (Op.eqFields d xs ys fs).run P w = .ok r w) : (Op.eqFields d xs ys (f :: fs)).run P w = .ok (decide (a = b) && r) w := by
  subst hT; subst ho
  obtain ⟨d, rfl⟩ : ∃ d', d = d' + 1 := ⟨d - 1, by omega⟩
  have e := run_equalIn_bool' (P := P) w d f.type a b hb.out
  simp only [Op.eqFields, hn, ne_eq, not_false_eq_true, if_true, Sem.run_bind, run_part_scal w hx, run_part_scal w hy, Result.andThen_ok, e]
  cases a <;> cases b <;> simp [hr]
theorem run_eqFields_int {P : Program} {w : World} {d : Nat} {xs ys : Array Value} {f : Field} {fs : List Field} {T o : Nat} {k : IntKind} [hb : IntT P T k] [ScalT P T] {a b : Int} {r : Bool}
    (hd : 1 ≤ d) (hT : f.type = T) (ho : f.offset = o) (hn : f.name ≠ "_") (hx : xs[o]? = some (.int k a)) (hy : ys[o]? = some (.int k b))
    (hr : (Op.eqFields d xs ys fs).run P w = .ok r w) : (Op.eqFields d xs ys (f :: fs)).run P w = .ok (decide (a = b) && r) w := by
  subst hT; subst ho
  obtain ⟨d, rfl⟩ : ∃ d', d = d' + 1 := ⟨d - 1, by omega⟩
  have e := run_equalIn_int (P := P) w d f.type k k a b hb.out
  simp only [Op.eqFields, hn, ne_eq, not_false_eq_true, if_true, Sem.run_bind, run_part_scal w hx, run_part_scal w hy, Result.andThen_ok, e]
  by_cases h : a = b <;> simp [h, hr]
theorem run_eqFields_nil {P : Program} {w : World} {d : Nat} {xs ys : Array Value} : (Op.eqFields d xs ys []).run P w = .ok true w := rfl
theorem run_equal_fields {P : Program} {w : World} {d t : Nat} {xs ys : Array Value} {fs : Array Field} {r : Bool} (hu : P.underlying t = some (.struct fs)) (hp : P.stoodInHeld t = false) (h : (Op.eqFields d xs ys fs.toList).run P w = .ok r w) :
    (Op.equalIn (d + 1) t (.agg xs) (.agg ys)).run P w = .ok r w := by
  have hf : P.fieldsOf t = fs := by simp [Program.fieldsOf, hu]
  rw [run_equalIn_struct w d t xs ys (by rw [hf]; exact hu) hp, hf]
  exact h

section
variable {P : Program} {f : Fr} {w : World} {R : Value → World → Prop} {d : Option Tmp} {T : TypeId} {pos : String} {af : Array Edge} {gd : Option (Nat × Bool)}
theorem opW.eqlE {α : Type} [Enc α] [DecidableEq α] {s t m : Nat} [he : EqT P s α m] [hg : EqGT P s] {x y : Operand} {a b : α} (hx : ev f x = .agg (Enc.enc a)) (hy : ev f y = .agg (Enc.enc b)) (h : R (.bool (decide (a = b))) w) : opW P f ⟨d, .binOp .eql s x y t, T, pos, af, gd⟩ w R := by
  refine opW.of_run (v := .bool (decide (a = b))) (w' := w) ?_ h
  have e1 : (eqGuard .eql s x y (.agg (Enc.enc a)) (.agg (Enc.enc b))).run P w = .ok () w := by simp [eqGuard, run_program, hg.out]
  have e2 : (binOp .eql s (.agg (Enc.enc a)) (.agg (Enc.enc b))).run P w = .ok (.bool (decide (a = b))) w := by
    rw [run_eql_struct, he.run w 10000 (Nat.le_trans he.le (by decide))]; rfl
  simp only [execOp, hx, hy, Sem.run_bind, e1, e2, Sem.run_pure, Result.andThen_ok]
theorem opW.neqE {α : Type} [Enc α] [DecidableEq α] {s t m : Nat} [he : EqT P s α m] [hg : EqGT P s] {x y : Operand} {a b : α} (hx : ev f x = .agg (Enc.enc a)) (hy : ev f y = .agg (Enc.enc b)) (h : R (.bool (!decide (a = b))) w) : opW P f ⟨d, .binOp .neq s x y t, T, pos, af, gd⟩ w R := by
  refine opW.of_run (v := .bool (!decide (a = b))) (w' := w) ?_ h
  have e1 : (eqGuard .neq s x y (.agg (Enc.enc a)) (.agg (Enc.enc b))).run P w = .ok () w := by simp [eqGuard, run_program, hg.out]
  have e2 : (binOp .neq s (.agg (Enc.enc a)) (.agg (Enc.enc b))).run P w = .ok (.bool (!decide (a = b))) w := by
    rw [run_neq_struct, he.run w 10000 (Nat.le_trans he.le (by decide))]; rfl
  simp only [execOp, hx, hy, Sem.run_bind, e1, e2, Sem.run_pure, Result.andThen_ok]
end

/-! keys of maps -/
class KV (κ : Type) where
  kv : κ → Value
  same : ∀ k, Instr.sameBits 10000 (kv k) (kv k) = true
section
variable {κ ν : Type} [DecidableEq κ]
/-- where a key is, and what is there -/
def fk (vv : ν → Value) (k : κ) : List (κ × ν) → Nat → Option (Nat × Value)
  | [], _ => none
  | (x, v) :: r, i => if k = x then some (i, vv v) else fk vv k r (i + 1)
def aget (k : κ) : List (κ × ν) → Option ν
  | [] => none
  | (x, v) :: r => if k = x then some v else aget k r
def aput (k : κ) (v : ν) : List (κ × ν) → List (κ × ν)
  | [] => [(k, v)]
  | (x, u) :: r => if k = x then (k, v) :: r else (x, u) :: aput k v r
def adel (k : κ) : List (κ × ν) → List (κ × ν)
  | [] => []
  | (x, u) :: r => if k = x then r else (x, u) :: adel k r
theorem aget_aput (k k' : κ) (v : ν) : ∀ l : List (κ × ν), aget k' (aput k v l) = if k' = k then some v else aget k' l
  | [] => by simp only [aput, aget]
  | (x, u) :: r => by
    have ih := aget_aput k k' v r
    simp only [aput]
    by_cases h : k = x
    · subst h; by_cases h2 : k' = k <;> simp [aget, h2]
    · by_cases h2 : k' = x
      · subst h2; simp [aget, h, Ne.symm h]
      · simp [aget, h, h2, ih]
theorem aput_aput (k : κ) (u v : ν) : ∀ l : List (κ × ν), aput k v (aput k u l) = aput k v l
  | [] => by simp [aput]
  | (x, y) :: r => by
    by_cases h : k = x
    · subst h; simp [aput]
    · simp [aput, h, aput_aput k u v r]
theorem mem_aput {k x : κ} {v : ν} : ∀ {l : List (κ × ν)}, x ∈ (aput k v l).map Prod.fst ↔ x = k ∨ x ∈ l.map Prod.fst
  | [] => by simp [aput]
  | (y, u) :: r => by
    by_cases h : k = y
    · subst h; simp [aput]
    · simp only [aput, h, if_false, List.map_cons, List.mem_cons]
      rw [mem_aput (l := r)]
      constructor
      · rintro (h | h | h)
        · exact .inr (.inl h)
        · exact .inl h
        · exact .inr (.inr h)
      · rintro (h | h | h)
        · exact .inr (.inl h)
        · exact .inl h
        · exact .inr (.inr h)
theorem nodup_aput (k : κ) (v : ν) : ∀ {l : List (κ × ν)}, (l.map Prod.fst).Nodup → ((aput k v l).map Prod.fst).Nodup
  | [], _ => by simp [aput]
  | (y, u) :: r, h => by
    simp only [List.map_cons, List.nodup_cons] at h
    by_cases hk : k = y
    · subst hk; simpa [aput] using h
    · simp only [aput, hk, if_false, List.map_cons, List.nodup_cons]
      refine ⟨fun hm => ?_, nodup_aput k v h.2⟩
      rcases mem_aput.1 hm with h1 | h1
      · exact hk h1.symm
      · exact h.1 h1
theorem adel_sub (k : κ) : ∀ l : List (κ × ν), (adel k l).Sublist l
  | [] => .slnil
  | (y, u) :: r => by
    by_cases hk : k = y
    · simp only [adel, hk, if_true]; exact .cons _ (List.Sublist.refl _)
    · simp only [adel, hk, if_false]; exact .cons₂ _ (adel_sub k r)
theorem aget_none {k : κ} : ∀ {l : List (κ × ν)}, aget k l = none ↔ k ∉ l.map Prod.fst
  | [] => by simp [aget]
  | (y, u) :: r => by
    by_cases hk : k = y
    · subst hk; simp [aget]
    · simp [aget, hk, aget_none (l := r)]
theorem aget_adel (k k' : κ) : ∀ {l : List (κ × ν)}, (l.map Prod.fst).Nodup → aget k' (adel k l) = if k' = k then none else aget k' l
  | [], _ => by simp [adel, aget]
  | (x, u) :: r, h => by
    simp only [List.map_cons, List.nodup_cons] at h
    have ih := aget_adel k k' h.2
    by_cases hk : k = x
    · subst hk
      by_cases h2 : k' = k
      · subst h2; simp [adel, aget_none.2 h.1]
      · simp [adel, aget, h2]
    · by_cases h2 : k' = x
      · subst h2; simp [adel, aget, hk, Ne.symm hk]
      · simp [adel, aget, hk, h2, ih]
theorem fk_none {vv : ν → Value} {k : κ} : ∀ {l : List (κ × ν)} {i : Nat}, fk vv k l i = none ↔ aget k l = none
  | [], _ => by simp [fk, aget]
  | (x, v) :: r, i => by by_cases h : k = x <;> simp [fk, aget, h, fk_none (l := r)]
theorem fk_some {vv : ν → Value} {k : κ} : ∀ {l : List (κ × ν)} {i j : Nat} {u : Value}, fk vv k l i = some (j, u) → ∃ m v, j = i + m ∧ u = vv v ∧ l[m]? = some (k, v) ∧ aget k l = some v ∧ ∀ v', aput k v' l = l.set m (k, v') ∧ adel k l = l.eraseIdx m
  | [], _, _, _, h => by simp [fk] at h
  | (x, v) :: r, i, j, u, h => by
    by_cases hk : k = x
    · subst hk
      simp [fk] at h
      exact ⟨0, v, by omega, h.2.symm, by simp, by simp [aget], fun v' => by simp [aput, adel]⟩
    · simp [fk, hk] at h
      obtain ⟨m, v2, h1, h2, h3, h4, h5⟩ := fk_some h
      exact ⟨m + 1, v2, by omega, h2, by simpa using h3, by simp [aget, hk, h4], fun v' => by simp [aput, adel, hk, (h5 v').1, (h5 v').2]⟩
theorem aput_new {k : κ} {v : ν} : ∀ {l : List (κ × ν)}, aget k l = none → aput k v l = l ++ [(k, v)]
  | [], _ => rfl
  | (x, u) :: r, h => by
    by_cases hk : k = x
    · simp [aget, hk] at h
    · simp [aget, hk] at h
      simp [aput, hk, aput_new h]
theorem adel_none {k : κ} : ∀ {l : List (κ × ν)}, aget k l = none → adel k l = l
  | [], _ => rfl
  | (x, u) :: r, h => by
    by_cases hk : k = x
    · simp [aget, hk] at h
    · simp [aget, hk] at h
      simp [adel, hk, adel_none h]
end

class KeyT (P : Program) (K : TypeId) (κ : Type) [DecidableEq κ] [KV κ] : Prop where
  chk : ∀ (em : Bool) (w : World) (k : κ), (Instr.checkKey em 10000 K (KV.kv k)).run P w = .ok () w
  fnd : ∀ {ν : Type} (vv : ν → Value) (w : World) (k : κ) (l : List MapEntry) (kvs : List (κ × ν)), l.map (fun e => (e.key, e.val)) = kvs.map (fun p => (KV.kv p.1, vv p.2)) → (Instr.findKey K (KV.kv k) l).run P w = .ok (fk vv k kvs 0) w

/-! keys that are arrays of bytes -/
theorem sameBits_u8 (l : List UInt8) (n : Nat) : ((l.map (fun c => Value.int .u8 c.toNat)).zip (l.map (fun c => Value.int .u8 c.toNat))).all (fun (x, y) => Instr.sameBits n x y) = true := by
  induction l with
  | nil => rfl
  | cons c l ih => simp [Instr.sameBits, ih]
instance {n : Nat} : KV (Vector UInt8 (n + 1)) where
  kv v := .agg (Enc.enc v)
  same v := by
    have h := sameBits_u8 v.toList 9999
    rw [Instr.sameBits]
    simp only [beq_self_eq_true, Bool.true_and, enc_vec_flat, flat_u8]
    exact h
theorem kv_vec {n : Nat} (v : Vector UInt8 (n + 1)) : KV.kv v = .agg (Enc.enc v) := rfl
theorem run_findAsking {P : Program} {K : TypeId} {κ ν : Type} [DecidableEq κ] [KV κ] (vv : ν → Value) (w : World) (k : κ) (heq : ∀ x : κ, (Op.equal K (KV.kv k) (KV.kv x)).run P w = .ok (decide (k = x)) w) :
    ∀ (l : List MapEntry) (kvs : List (κ × ν)) (i : Nat), l.map (fun e => (e.key, e.val)) = kvs.map (fun p => (KV.kv p.1, vv p.2)) → (Instr.findAsking K (KV.kv k) l i).run P w = .ok (fk vv k kvs i) w
  | [], [], i, _ => rfl
  | e :: l, (x, v) :: kvs, i, h => by
    simp only [List.map_cons, List.cons.injEq, Prod.mk.injEq] at h
    obtain ⟨⟨h1, h2⟩, h3⟩ := h
    have ih := run_findAsking vv w k heq l kvs (i + 1) h3
    simp only [Instr.findAsking, h1, Sem.run_bind, heq, Result.andThen_ok, fk, h2]
    by_cases hk : k = x
    · simp [hk]
    · simp [hk, ih]
  | [], _ :: _, _, h => by simp at h
  | _ :: _, [], _, h => by simp at h
theorem run_checkKey_bytes {P : Program} {K e n : Nat} [ha : ArrT P K (n + 1) e] [hi : IntT P e .u8] [hs : SizeT P e 1] [hsc : ScalT P e] (em : Bool) (w : World) (k : Vector UInt8 (n + 1)) : (Instr.checkKey em 10000 K (.agg (Enc.enc k))).run P w = .ok () w := by
  show (Instr.checkKey em (9998 + 1 + 1) K (.agg (Enc.enc k))).run P w = .ok () w
  generalize 9998 = d
  rw [Instr.checkKey]
  simp only [Sem.run_bind, run_underlying ha.out, Result.andThen_ok, Std.Legacy.Range.forIn_eq_forIn_range', Std.Legacy.Range.size, Nat.sub_zero, Nat.add_sub_cancel, Nat.div_one]
  have hl : ∀ i ∈ List.range' 0 (n + 1) 1, i < n + 1 := fun i hi => by simpa using (List.mem_range'_1.1 hi).2
  generalize List.range' 0 (n + 1) 1 = l at hl ⊢
  induction l with
  | nil => simp
  | cons i l ih =>
    have hi' : i < n + 1 := hl i (by simp)
    have hp : (part e (Enc.enc k) (i * 1)).run P w = .ok (.int .u8 (k[i].toNat : Int)) w := run_part_scal w (by simp [enc_vec, hi'])
    have hc : (Instr.checkKey em (d + 1) e (.int .u8 (k[i].toNat : Int))).run P w = .ok () w := by
      rw [Instr.checkKey]
      simp only [Sem.run_bind, run_underlying hi.out, Result.andThen_ok]
      rfl
    simp only [List.forIn_cons, Sem.run_bind, run_sizeOf' hs, hp, hc, Result.andThen_ok, Sem.run_pure]
    exact ih fun j hj => hl j (by simp [hj])
theorem keyT_vec {P : Program} {K e n : Nat} (ha : ArrT P K (n + 1) e) (hi : IntT P e .u8) (hs : SizeT P e 1) (hsc : ScalT P e) : KeyT P K (Vector UInt8 (n + 1)) where
  chk em w k := run_checkKey_bytes em w k
  fnd vv w k l kvs h := by
    have heq : ∀ x : Vector UInt8 (n + 1), (Op.equal K (KV.kv k) (KV.kv x)).run P w = .ok (decide (k = x)) w := fun x => (eqT_vec ha hi hs).run w 10000 (by decide) k x
    have h2 := run_findAsking vv w k heq l kvs 0 h
    unfold Instr.findKey
    simp only [Sem.run_bind, run_underlying ha.out, Result.andThen_ok]
    cases l with
    | nil =>
      cases kvs with
      | nil => rfl
      | cons p r => simp at h
    | cons e l => exact h2

instance {P : Program} {K e n N : Nat} [ha : ArrT P K N e] [hn : SameN N (n + 1)] [hi : IntT P e .u8] [hs : SizeT P e 1] [hsc : ScalT P e] : KeyT P K (Vector UInt8 (n + 1)) := keyT_vec (hn.out ▸ ha) hi hs hsc

/-! own maps -/
def Stamps (es : Array MapEntry) (clock : Nat) : Prop := (∀ x ∈ es.toList, x.born < clock) ∧ (es.toList.map (·.born)).Nodup
section
variable {κ ν : Type} [DecidableEq κ] [KV κ]
def MapIs (vv : ν → Value) (es : Array MapEntry) (clock : Nat) (kvs : List (κ × ν)) : Prop :=
  es.toList.map (fun e => (e.key, e.val)) = kvs.map (fun p => (KV.kv p.1, vv p.2)) ∧ Stamps es clock ∧ (kvs.map Prod.fst).Nodup
def MapB (w : World) (r : Nat) (vv : ν → Value) (kvs : List (κ × ν)) : Prop := ∃ es clock, w.heap[r]? = some (.map es clock) ∧ MapIs vv es clock kvs
/-- a map with an entry that waits for its value -/
def MapW (w : World) (r : Nat) (vv : ν → Value) (kvs : List (κ × ν)) (born : Nat) (k : κ) : Prop :=
  ∃ es clock i v, w.heap[r]? = some (.map es clock) ∧ MapIs vv es clock kvs ∧ es.findIdx? (fun e => (e.born : Int) == (born : Int)) = some i ∧ fk vv k kvs 0 = some (i, v)
@[irreducible] def mapE (r : Nat) (vv : ν → Value) (kvs : List (κ × ν)) : Ent := ⟨fun k => k = r, fun w => MapB w r vv kvs, fun w w' h ⟨es, c, h1, h2⟩ => ⟨es, c, by rw [h r rfl]; exact h1, h2⟩⟩
@[irreducible] def mapWE (r : Nat) (vv : ν → Value) (kvs : List (κ × ν)) (born : Nat) (k : κ) : Ent := ⟨fun k => k = r, fun w => MapW w r vv kvs born k, fun w w' h ⟨es, c, i, v, h1, h2⟩ => ⟨es, c, i, v, by rw [h r rfl]; exact h1, h2⟩⟩
theorem mapE_F (r : Nat) (vv : ν → Value) (kvs : List (κ × ν)) : (mapE r vv kvs).F = fun k => k = r := by unfold mapE; rfl
theorem mapE_A (r : Nat) (vv : ν → Value) (kvs : List (κ × ν)) : (mapE r vv kvs).A = fun w => MapB w r vv kvs := by unfold mapE; rfl
theorem mapWE_F (r : Nat) (vv : ν → Value) (kvs : List (κ × ν)) (b : Nat) (k : κ) : (mapWE r vv kvs b k).F = fun k => k = r := by unfold mapWE; rfl
theorem mapWE_A (r : Nat) (vv : ν → Value) (kvs : List (κ × ν)) (b : Nat) (k : κ) : (mapWE r vv kvs b k).A = fun w => MapW w r vv kvs b k := by unfold mapWE; rfl
/-- a map that a call hands back: new memory -/
def NewM (w w' : World) (v : Value) (vv : ν → Value) (kvs : List (κ × ν)) : Prop := ∃ r, v = .map (some r) ∧ w.heap.size ≤ r ∧ MapB w' r vv kvs

theorem mapIs_keys {vv : ν → Value} {es : Array MapEntry} {clock : Nat} {kvs : List (κ × ν)} (h : MapIs vv es clock kvs) : es.size = kvs.length := by
  have := congrArg List.length h.1; simpa using this
theorem mapIs_set {vv : ν → Value} {es : Array MapEntry} {clock i : Nat} {kvs : List (κ × ν)} {k : κ} {v v' : ν} (h : MapIs vv es clock kvs) (hi : kvs[i]? = some (k, v)) (g : MapEntry → MapEntry) (hb : ∀ e, (g e).born = e.born)
    (hk : ∀ e, es[i]? = some e → ((g e).key, (g e).val) = (KV.kv k, vv v')) : MapIs vv (es.modify i g) clock (kvs.set i (k, v')) := by
  obtain ⟨h1, ⟨h2, h3⟩, h4⟩ := h
  have hborn : (es.modify i g).toList.map (·.born) = es.toList.map (·.born) := by
    apply List.ext_getElem?
    intro j
    simp only [List.getElem?_map, Array.getElem?_toList, Array.getElem?_modify]
    split
    · rename_i hij; subst hij; cases es[i]? <;> simp [hb]
    · rfl
  refine ⟨?_, ⟨?_, by rw [hborn]; exact h3⟩, ?_⟩
  · apply List.ext_getElem?
    intro j
    have h5 := congrArg (fun l => l[j]?) h1
    simp only [List.getElem?_map, Array.getElem?_toList] at h5
    simp only [List.getElem?_map, Array.getElem?_toList, Array.getElem?_modify, List.getElem?_set]
    have hil : i < kvs.length := (List.getElem?_eq_some_iff.1 hi).1
    by_cases hij : i = j
    · subst hij
      simp only [hi, Option.map_some, Option.map_eq_some_iff] at h5
      obtain ⟨e, he, _⟩ := h5
      simp [he, hk e he, hil]
    · simp [hij, h5]
  · intro x hx
    have : x.born ∈ (es.modify i g).toList.map (·.born) := List.mem_map.2 ⟨x, hx, rfl⟩
    rw [hborn] at this
    obtain ⟨y, hy, e⟩ := List.mem_map.1 this
    rw [← e]; exact h2 y hy
  · have : (kvs.set i (k, v')).map Prod.fst = kvs.map Prod.fst := by
      apply List.ext_getElem?
      intro j
      simp only [List.getElem?_map, List.getElem?_set]
      by_cases hij : i = j
      · subst hij
        have e1 := (List.getElem?_eq_some_iff.1 hi).2
        simp [e1, (List.getElem?_eq_some_iff.1 hi).1]
      · simp [hij]
    rw [this]; exact h4
theorem mapIs_push {vv : ν → Value} {es : Array MapEntry} {clock : Nat} {kvs : List (κ × ν)} {k : κ} {v : ν} (h : MapIs vv es clock kvs) (hk : aget k kvs = none) : MapIs vv (es.push { key := KV.kv k, val := vv v, born := clock }) (clock + 1) (kvs ++ [(k, v)]) := by
  obtain ⟨h1, ⟨h2, h3⟩, h4⟩ := h
  refine ⟨by simp [h1], ⟨?_, ?_⟩, ?_⟩
  · intro x hx
    simp only [Array.toList_push, List.mem_append, List.mem_singleton] at hx
    rcases hx with hx | rfl
    · exact Nat.lt_succ_of_lt (h2 x hx)
    · exact Nat.lt_succ_self _
  · simp only [Array.toList_push, List.map_append, List.map_cons, List.map_nil]
    refine List.nodup_append.2 ⟨h3, by simp, fun a ha b hb => ?_⟩
    simp only [List.mem_singleton] at hb
    subst hb
    obtain ⟨x, hx, rfl⟩ := List.mem_map.1 ha
    exact Nat.ne_of_lt (h2 x hx)
  · simp only [List.map_append, List.map_cons, List.map_nil]
    refine List.nodup_append.2 ⟨h4, by simp, fun a ha b hb => ?_⟩
    simp only [List.mem_singleton] at hb
    subst hb
    intro e; subst e
    exact aget_none.1 hk ha
theorem map_eraseIdx' {α β : Type} (g : α → β) : ∀ (l : List α) (i : Nat), (l.eraseIdx i).map g = (l.map g).eraseIdx i
  | [], _ => rfl
  | _ :: _, 0 => rfl
  | _ :: l, i + 1 => by simp [map_eraseIdx' g l i]
theorem mapIs_erase {vv : ν → Value} {es : Array MapEntry} {clock i : Nat} {kvs : List (κ × ν)} (h : MapIs vv es clock kvs) (hi : i < kvs.length) : MapIs vv (es.eraseIdxIfInBounds i) clock (kvs.eraseIdx i) := by
  have hsz := mapIs_keys h
  obtain ⟨h1, ⟨h2, h3⟩, h4⟩ := h
  have e0 : (es.eraseIdxIfInBounds i).toList = es.toList.eraseIdx i := by
    unfold Array.eraseIdxIfInBounds
    rw [dif_pos (by omega)]; simp
  have hs : (es.eraseIdxIfInBounds i).toList.Sublist es.toList := by rw [e0]; exact List.eraseIdx_sublist _ _
  refine ⟨?_, ⟨fun x hx => h2 x (hs.subset hx), (hs.map _).nodup h3⟩, ((List.eraseIdx_sublist _ _).map _).nodup h4⟩
  rw [e0, map_eraseIdx', map_eraseIdx', h1]
theorem keyThatStays_same {P : Program} {w : World} {x : Value} (h : Instr.sameBits 10000 x x = true) : (Instr.keyThatStays x x).run P w = .ok x w := by
  unfold Instr.keyThatStays
  rw [if_pos h]; rfl
section
variable {P : Program} {f : Fr} {w w0 : World} {S : List Ent} {R : Value → World → Prop} {d : Option Tmp} {T : TypeId} {pos : String} {af : Array Edge} {gd : Option (Nat × Bool)}
theorem St.map {r : Nat} {vv : ν → Value} {kvs : List (κ × ν)} (hS : St w0 S w) (he : Has (mapE r vv kvs) S) : MapB w r vv kvs := by have := hS.get he; rw [mapE_A] at this; exact this
theorem St.newMap {w' : World} {r : Nat} {vv : ν → Value} {kvs : List (κ × ν)} (hS : St w0 S w) (hb : Bel w w') (hm : MapB w' r vv kvs) (hr : w.heap.size ≤ r) : St w0 (mapE r vv kvs :: S) w' := by
  refine hS.new hb (by rw [mapE_A]; exact hm) (by
    rw [mapE_F]; intro k hk; have hk : k = r := hk; subst hk
    obtain ⟨es, c, h, _⟩ := hm
    exact ⟨hr, (Array.getElem?_eq_some_iff.1 h).1⟩)
theorem St.map_new {r : Nat} {vv : ν → Value} {kvs : List (κ × ν)} (hS : St w0 S w) (he : Has (mapE r vv kvs) S) : NewM w0 w (.map (some r)) vv kvs := by
  have h2 := (hS.all _ he.mem).2
  rw [mapE_F] at h2
  exact ⟨r, rfl, (h2 r rfl).1, hS.map he⟩
theorem St.mapDrop {r born : Nat} {k : κ} {vv : ν → Value} {kvs : List (κ × ν)} (hS : St w0 S w) {S' : List Ent} (hT : Turn (mapWE r vv kvs born k) (mapE r vv kvs) S S') : St w0 S' w := by
  refine St.turn ⟨rfl, rfl, rfl, Nat.le_refl _, fun _ _ _ => rfl⟩ ?_ ?_ hS hT
  · have := hS.get hT.has
    rw [mapWE_A] at this
    obtain ⟨es, c, i, v, h1, h2, _⟩ := this
    rw [mapE_A]; exact ⟨es, c, h1, h2⟩
  · rw [mapE_F, mapWE_F]; exact fun k hk => .inl hk
theorem MapB.bel {w' : World} {r : Nat} {vv : ν → Value} {kvs : List (κ × ν)} (hb : Bel w w') (h : MapB w r vv kvs) : MapB w' r vv kvs := by
  obtain ⟨es, c, h1, h2⟩ := h; exact ⟨es, c, hb.get h1, h2⟩
theorem opW.makeMap (κ : Type) [DecidableEq κ] [KV κ] {ν : Type} (vv : ν → Value) {t : TypeId} (hS : St w0 S w) (h : ∀ r w', Bel w w' → St w0 (mapE r vv ([] : List (κ × ν)) :: S) w' → R (.map (some r)) w') : opW P f ⟨d, .makeMap t none, T, pos, af, gd⟩ w R := by
  have hb : Bel w (w.alloc (.map #[] 0)) := Bel.alloc w _
  refine opW.of_run (v := .map (some w.heap.size)) (w' := w.alloc (.map #[] 0)) ?_ (h _ _ hb (hS.newMap hb ⟨#[], 0, heap_alloc_new w _, by simp, ⟨by simp, by simp⟩, by simp⟩ (Nat.le_refl _)))
  simp [execOp, Instr.makeMap]
theorem opW.lookup {t K E r : Nat} {z : Value} {x ix : Operand} {k : κ} {vv : ν → Value} {kvs : List (κ × ν)} [hm : MapT P t K E] [hk : KeyT P K κ] [hz : ZeroT P E z] (hM : MapB w r vv kvs) (hx : ev f x = .map (some r)) (hi : ev f ix = KV.kv k)
    (h : R (((aget k kvs).map vv).getD z) w) : opW P f ⟨d, .lookup t x ix false, T, pos, af, gd⟩ w R := by
  obtain ⟨es, c, hb, hmi⟩ := hM
  have hf := hk.fnd vv w k es.toList kvs hmi.1
  refine opW.of_run (v := ((aget k kvs).map vv).getD z) (w' := w) ?_ h
  simp only [execOp, Instr.lookup, hx, hi, Sem.run_bind, run_underlying hm.out, Result.andThen_ok, MapKept.run_getObj_map hb, Sem.run_pure, hk.chk, hf]
  cases hfk : fk vv k kvs 0 with
  | none =>
    rw [fk_none.1 hfk]
    simp [run_zeroValue' hz]
  | some p =>
    obtain ⟨i, u⟩ := p
    obtain ⟨m, v, _, rfl, _, h4, _⟩ := fk_some hfk
    rw [h4]
    simp
theorem opW.lookup2 {t K E r : Nat} {z : Value} {x ix : Operand} {k : κ} {vv : ν → Value} {kvs : List (κ × ν)} [hm : MapT P t K E] [hk : KeyT P K κ] [hz : ZeroT P E z] (hM : MapB w r vv kvs) (hx : ev f x = .map (some r)) (hi : ev f ix = KV.kv k)
    (h : R (.tuple #[((aget k kvs).map vv).getD z, .bool (aget k kvs).isSome]) w) : opW P f ⟨d, .lookup t x ix true, T, pos, af, gd⟩ w R := by
  obtain ⟨es, c, hb, hmi⟩ := hM
  have hf := hk.fnd vv w k es.toList kvs hmi.1
  refine opW.of_run (v := .tuple #[((aget k kvs).map vv).getD z, .bool (aget k kvs).isSome]) (w' := w) ?_ h
  simp only [execOp, Instr.lookup, hx, hi, Sem.run_bind, run_underlying hm.out, Result.andThen_ok, MapKept.run_getObj_map hb, Sem.run_pure, hk.chk, hf]
  cases hfk : fk vv k kvs 0 with
  | none =>
    rw [fk_none.1 hfk]
    simp [run_zeroValue' hz]
  | some p =>
    obtain ⟨i, u⟩ := p
    obtain ⟨m, v, _, rfl, _, h4, _⟩ := fk_some hfk
    rw [h4]
    simp
/-- 'map[k]' of no map -/
theorem opW.lookupNil {t K E : Nat} {z : Value} {x ix : Operand} {k : κ} [hm : MapT P t K E] [hk : KeyT P K κ] [hz : ZeroT P E z] (hx : ev f x = .map none) (hi : ev f ix = KV.kv k)
    (h : R z w) : opW P f ⟨d, .lookup t x ix false, T, pos, af, gd⟩ w R := by
  have hf := hk.fnd (ν := Unit) (fun _ => undef) w k [] [] rfl
  refine opW.of_run (v := z) (w' := w) ?_ h
  simp only [execOp, Instr.lookup, hx, hi, Sem.run_bind, run_underlying hm.out, Result.andThen_ok, Sem.run_pure, hk.chk, hf]
  simp [fk, run_zeroValue' hz]
theorem set_chg {r : Nat} {o o' : Obj} (hb : w.heap[r]? = some o) : Chg (fun k => k = r) w { w with heap := w.heap.setIfInBounds r o' } :=
  ⟨rfl, rfl, rfl, by simp, fun k _ hk => by simp [Ne.symm hk]⟩
theorem set_get {r : Nat} {o o' : Obj} (hb : w.heap[r]? = some o) : ({ w with heap := w.heap.setIfInBounds r o' } : World).heap[r]? = some o' := by
  have := (Array.getElem?_eq_some_iff.1 hb).1
  simp [this]
theorem opW.mapUpdate {t K E r : Nat} {x ix y : Operand} {k : κ} {v : ν} {vv : ν → Value} {kvs : List (κ × ν)} [hm : MapT P t K E] [hk : KeyT P K κ] (hS : St w0 S w) (he : Has (mapE r vv kvs) S) (hx : ev f x = .map (some r)) (hi : ev f ix = KV.kv k) (hy : ev f y = vv v)
    (h : ∀ w', (∀ S', Turn (mapE r vv kvs) (mapE r vv (aput k v kvs)) S S' → St w0 S' w') → R undef w') : opW P f ⟨d, .mapUpdate t x ix y, T, pos, af, gd⟩ w R := by
  obtain ⟨es, c, hb, hmi⟩ := hS.map he
  have hf := hk.fnd vv w k es.toList kvs hmi.1
  cases hfk : fk vv k kvs 0 with
  | none =>
    have h0 := fk_none.1 hfk
    refine opW.of_skip (w' := { w with heap := w.heap.setIfInBounds r (.map (es.push { key := KV.kv k, val := vv v, born := c }) (c + 1)) }) ?_ (h _ fun S' hT => St.turn (by rw [mapE_F]; exact set_chg hb) ?_ ?_ hS hT)
    · simp [execOp, Instr.mapUpdate, hx, hi, hy, run_underlying hm.out, MapKept.run_getObj_map hb, hk.chk, hf, hfk, MapKept.run_setObj_map _ hb]
    · rw [mapE_A]; exact ⟨_, _, set_get hb, by rw [aput_new h0]; exact mapIs_push hmi h0⟩
    · rw [mapE_F, mapE_F]; exact fun k hk => .inl hk
  | some p =>
    obtain ⟨i, u⟩ := p
    obtain ⟨m, v1, h1, rfl, h3, h4, h5⟩ := fk_some hfk
    obtain rfl : i = m := by omega
    have hil : i < es.size := by rw [mapIs_keys hmi]; exact (List.getElem?_eq_some_iff.1 h3).1
    have hki : (es[i]'hil).key = KV.kv k := by
      have := congrArg (fun l => l[i]?) hmi.1
      simp [h3, hil] at this
      exact this.1
    refine opW.of_skip (w' := { w with heap := w.heap.setIfInBounds r (.map (es.modify i fun e => { e with key := KV.kv k, val := vv v }) c) }) ?_ (h _ fun S' hT => St.turn (by rw [mapE_F]; exact set_chg hb) ?_ ?_ hS hT)
    · simp [execOp, Instr.mapUpdate, hx, hi, hy, run_underlying hm.out, MapKept.run_getObj_map hb, hk.chk, hf, hfk, hil, hki, keyThatStays_same (KV.same k), MapKept.run_setObj_map _ hb]
    · rw [mapE_A]
      refine ⟨_, _, set_get hb, ?_⟩
      rw [(h5 v).1]
      exact mapIs_set hmi h3 _ (fun _ => rfl) (fun _ _ => rfl)
    · rw [mapE_F, mapE_F]; exact fun k hk => .inl hk
theorem findIdx_born {es : Array MapEntry} {c i : Nat} (h : Stamps es c) (hi : i < es.size) : es.findIdx? (fun e => (e.born : Int) == ((es[i]'hi).born : Int)) = some i := by
  rw [Array.findIdx?_eq_some_iff_getElem]
  refine ⟨hi, by simp, fun j hj => ?_⟩
  have h3 := h.2
  have hne : (es[j]'(by omega)).born ≠ (es[i]'hi).born := by
    intro e
    have := List.pairwise_iff_getElem.1 h3 j i (by simp; omega) (by simpa using hi) hj
    simp at this
    exact this e
  simp; omega
theorem opW.mapEntry {t K E r : Nat} {z0 : ν} {x ix : Operand} {k : κ} {vv : ν → Value} {kvs : List (κ × ν)} [hm : MapT P t K E] [hk : KeyT P K κ] (hz : ZeroT P E (vv z0)) (hS : St w0 S w) (he : Has (mapE r vv kvs) S) (hx : ev f x = .map (some r)) (hi : ev f ix = KV.kv k)
    (h : ∀ (born : Nat) w', (∀ S', Turn (mapE r vv kvs) (mapWE r vv (aput k ((aget k kvs).getD z0) kvs) born k) S S' → St w0 S' w') → R (.tuple #[vv ((aget k kvs).getD z0), .int .i64 born]) w') : opW P f ⟨d, .mapEntry t x ix, T, pos, af, gd⟩ w R := by
  obtain ⟨es, c, hb, hmi⟩ := hS.map he
  have hf := hk.fnd vv w k es.toList kvs hmi.1
  cases hfk : fk vv k kvs 0 with
  | none =>
    have h0 := fk_none.1 hfk
    have hmi2 := mapIs_push (v := z0) hmi h0
    refine opW.of_run (v := .tuple #[vv z0, .int .i64 c]) (w' := { w with heap := w.heap.setIfInBounds r (.map (es.push { key := KV.kv k, val := vv z0, born := c }) (c + 1)) }) ?_ ?_
    · simp [execOp, Instr.mapEntry, hx, hi, run_underlying hm.out, MapKept.run_getObj_map hb, hk.chk, hf, hfk, MapKept.run_setObj_map _ hb, run_zeroValue' hz, goInt]
    · have h1 := h c { w with heap := w.heap.setIfInBounds r (.map (es.push { key := KV.kv k, val := vv z0, born := c }) (c + 1)) }
      rw [h0] at h1
      simp only [Option.getD_none] at h1
      refine h1 fun S' hT => St.turn (by rw [mapE_F]; exact set_chg hb) ?_ ?_ hS hT
      · rw [mapWE_A, aput_new h0]
        refine ⟨_, _, es.size, vv z0, set_get hb, hmi2, ?_, ?_⟩
        · have := findIdx_born hmi2.2.1 (i := es.size) (by simp)
          simpa using this
        · have : ∀ (l : List (κ × ν)) (i : Nat), aget k l = none → fk vv k (l ++ [(k, z0)]) i = some (i + l.length, vv z0) := by
            intro l
            induction l with
            | nil => intro i _; simp [fk]
            | cons p l ih =>
              intro i hl
              obtain ⟨x, u⟩ := p
              by_cases hkx : k = x
              · simp [aget, hkx] at hl
              · simp [aget, hkx] at hl
                simp [fk, hkx, ih (i + 1) hl]; omega
          rw [this kvs 0 h0, mapIs_keys hmi]; simp
      · rw [mapE_F, mapWE_F]; exact fun k hk => .inl hk
  | some p =>
    obtain ⟨i, u⟩ := p
    obtain ⟨m, v1, h1, rfl, h3, h4, h5⟩ := fk_some hfk
    obtain rfl : i = m := by omega
    have hil : i < es.size := by rw [mapIs_keys hmi]; exact (List.getElem?_eq_some_iff.1 h3).1
    have hki : (es[i]'hil).key = KV.kv k ∧ (es[i]'hil).val = vv v1 := by
      have := congrArg (fun l => l[i]?) hmi.1
      simp [h3, hil] at this
      exact this
    have hmi2 : MapIs vv (es.modify i fun e => { e with key := KV.kv k }) c (kvs.set i (k, v1)) := mapIs_set hmi h3 _ (fun _ => rfl) (fun e he' => by
      have : e = es[i] := by rw [Array.getElem?_eq_getElem hil] at he'; cases he'; rfl
      subst this; simp [hki.2])
    refine opW.of_run (v := .tuple #[vv v1, .int .i64 ((es[i]'hil).born : Nat)]) (w' := { w with heap := w.heap.setIfInBounds r (.map (es.modify i fun e => { e with key := KV.kv k }) c) }) ?_ ?_
    · simp [execOp, Instr.mapEntry, hx, hi, run_underlying hm.out, MapKept.run_getObj_map hb, hk.chk, hf, hfk, hil, hki.1, keyThatStays_same (KV.same k), MapKept.run_setObj_map _ hb, goInt]
    · have h6 := h (es[i]'hil).born { w with heap := w.heap.setIfInBounds r (.map (es.modify i fun e => { e with key := KV.kv k }) c) }
      rw [h4] at h6
      simp only [Option.getD_some] at h6
      refine h6 fun S' hT => St.turn (by rw [mapE_F]; exact set_chg hb) ?_ ?_ hS hT
      · rw [mapWE_A, (h5 v1).1]
        refine ⟨_, _, i, vv v1, set_get hb, hmi2, ?_, ?_⟩
        · have hil2 : i < (es.modify i fun e => { e with key := KV.kv k }).size := by simpa using hil
          have := findIdx_born hmi2.2.1 (i := i) hil2
          simpa [Array.getElem_modify] using this
        · have : kvs.set i (k, v1) = kvs := by
            have hl := (List.getElem?_eq_some_iff.1 h3).1
            have : kvs[i] = (k, v1) := (List.getElem?_eq_some_iff.1 h3).2
            rw [← this, List.set_getElem_self]
          rw [this]; exact hfk
      · rw [mapE_F, mapWE_F]; exact fun k hk => .inl hk
theorem opW.entryStore {t r born : Nat} {x ix y : Operand} {k : κ} {v : ν} {vv : ν → Value} {kvs : List (κ × ν)} (hS : St w0 S w) (he : Has (mapWE r vv kvs born k) S) (hx : ev f x = .map (some r)) (hi : ev f ix = .int .i64 born) (hy : ev f y = vv v)
    (h : ∀ w', (∀ S', Turn (mapWE r vv kvs born k) (mapE r vv (aput k v kvs)) S S' → St w0 S' w') → R undef w') : opW P f ⟨d, .entryStore t x ix y, T, pos, af, gd⟩ w R := by
  have hw := hS.get he
  rw [mapWE_A] at hw
  obtain ⟨es, c, i, u, hb, hmi, hfi, hfk⟩ := hw
  obtain ⟨m, v1, h1, rfl, h3, h4, h5⟩ := fk_some hfk
  obtain rfl : i = m := by omega
  have hil : i < es.size := by rw [mapIs_keys hmi]; exact (List.getElem?_eq_some_iff.1 h3).1
  have hki : (es[i]'hil).key = KV.kv k := by
    have := congrArg (fun l => l[i]?) hmi.1
    simp [h3, hil] at this
    exact this.1
  refine opW.of_skip (w' := { w with heap := w.heap.setIfInBounds r (.map (es.modify i fun e => { e with val := vv v }) c) }) ?_ (h _ fun S' hT => St.turn (by rw [mapWE_F]; exact set_chg hb) ?_ ?_ hS hT)
  · simp [execOp, Instr.entryStore, hx, hi, hy, MapKept.run_getObj_map hb, asInt, asIntOf, hfi, MapKept.run_setObj_map _ hb]
  · rw [mapE_A]
    refine ⟨_, _, set_get hb, ?_⟩
    rw [(h5 v).1]
    exact mapIs_set hmi h3 _ (fun _ => rfl) (fun e he' => by
      have : e = es[i] := by rw [Array.getElem?_eq_getElem hil] at he'; cases he'; rfl
      subst this; simp [hki])
  · rw [mapE_F, mapWE_F]; exact fun k hk => .inl hk
theorem opW.lenM {t K E r : Nat} {x : Operand} {vv : ν → Value} {kvs : List (κ × ν)} [hm : MapT P t K E] (hM : MapB w r vv kvs) (hx : ev f x = .map (some r)) (h : R (.int .i64 kvs.length) w) :
    opW P f ⟨d, .call { callee := .builtin .len, args := #[x], argTypes := #[t] }, T, pos, af, gd⟩ w R := by
  obtain ⟨es, c, hb, hmi⟩ := hM
  refine opW.of_run (v := .int .i64 kvs.length) (w' := w) ?_ h
  simp [execOp, resolve, invoke, builtin, Builtin.len_, hx, run_underlying hm.out, goInt, MapKept.run_getObj_map hb, mapIs_keys hmi]
theorem opW.delete {t K E r : Nat} {x ix : Operand} {k : κ} {vv : ν → Value} {kvs : List (κ × ν)} [hm : MapT P t K E] [hk : KeyT P K κ] {ts : Array TypeId} (hts : ts[0]? = some t) (hS : St w0 S w) (he : Has (mapE r vv kvs) S) (hx : ev f x = .map (some r)) (hi : ev f ix = KV.kv k)
    (h : ∀ w', (∀ S', Turn (mapE r vv kvs) (mapE r vv (adel k kvs)) S S' → St w0 S' w') → R (.tuple #[]) w') : opW P f ⟨d, .call { callee := .builtin .delete, args := #[x, ix], argTypes := ts }, T, pos, af, gd⟩ w R := by
  obtain ⟨es, c, hb, hmi⟩ := hS.map he
  have hf := hk.fnd vv w k es.toList kvs hmi.1
  cases hfk : fk vv k kvs 0 with
  | none =>
    have h0 := fk_none.1 hfk
    refine opW.of_run (v := .tuple #[]) (w' := { w with heap := w.heap.setIfInBounds r (.map es c) }) ?_ (h _ fun S' hT => St.turn (by rw [mapE_F]; exact set_chg hb) ?_ ?_ hS hT)
    · simp [execOp, resolve, invoke, builtin, Builtin.delete_, hts, hx, hi, run_underlying hm.out, MapKept.run_getObj_map hb, hk.chk, hf, hfk, MapKept.run_setObj_map _ hb]
    · rw [mapE_A]; exact ⟨_, _, set_get hb, by rw [adel_none h0]; exact hmi⟩
    · rw [mapE_F, mapE_F]; exact fun k hk => .inl hk
  | some p =>
    obtain ⟨i, u⟩ := p
    obtain ⟨m, v1, h1, rfl, h3, h4, h5⟩ := fk_some hfk
    obtain rfl : i = m := by omega
    refine opW.of_run (v := .tuple #[]) (w' := { w with heap := w.heap.setIfInBounds r (.map (es.eraseIdxIfInBounds i) c) }) ?_ (h _ fun S' hT => St.turn (by rw [mapE_F]; exact set_chg hb) ?_ ?_ hS hT)
    · simp [execOp, resolve, invoke, builtin, Builtin.delete_, hts, hx, hi, run_underlying hm.out, MapKept.run_getObj_map hb, hk.chk, hf, hfk, MapKept.run_setObj_map _ hb]
    · rw [mapE_A]; exact ⟨_, _, set_get hb, by rw [(h5 v1).2]; exact mapIs_erase hmi (List.getElem?_eq_some_iff.1 h3).1⟩
    · rw [mapE_F, mapE_F]; exact fun k hk => .inl hk
end
end
end Go.Fer
