/- Library, part 25 (maps by words of 64 bits, literals of maps, bytes taken as an array, pointers into one list). No condition: rules alone. -/
import Derived.Test.YthfbfhokmknfnaaDoorWides
import Derived.Test.YthfbfhokmknfnaaDoorBooks
set_option linter.all false
namespace Go.Fer
open Go Go.RowKit
theorem one_ptr (r : Option Addr) : ∀ u ∈ (#[Value.pointer r] : Array Value).toList, u.oneCell' = true := by intro u hu; simp at hu; subst hu; rfl
instance : KV U64 where
  kv x := .int .u64 (x.n : Int)
  same x := by simp [Instr.sameBits]
theorem kv_u64 (x : U64) : KV.kv x = .int .u64 (x.n : Int) := rfl
theorem findNow_u64 {ν : Type} (vv : ν → Value) (k : U64) : ∀ (l : List MapEntry) (kvs : List (U64 × ν)) (i : Nat), l.map (fun e => (e.key, e.val)) = kvs.map (fun p => (KV.kv p.1, vv p.2)) → Instr.findNow (.int .u64) (KV.kv k) l i = some (fk vv k kvs i)
  | [], [], i, _ => rfl
  | e :: l, (x, v) :: kvs, i, h => by
    simp only [List.map_cons, List.cons.injEq, Prod.mk.injEq] at h
    obtain ⟨⟨h1, h2⟩, h3⟩ := h
    have ih := findNow_u64 vv k l kvs (i + 1) h3
    have hs : Instr.sameNow (.int .u64) (KV.kv k) e.key = some (decide (k = x)) := by
      rw [h1, kv_u64, kv_u64]
      simp only [Instr.sameNow, if_true, Option.some.injEq]
      rw [Bool.eq_iff_iff, decide_eq_true_eq, beq_iff_eq]
      constructor
      · intro h
        obtain ⟨a⟩ := k
        obtain ⟨b⟩ := x
        have h : (a : Int) = (b : Int) := h
        have : a = b := by omega
        rw [this]
      · intro h; rw [h]
    simp only [Instr.findNow, hs, fk]
    by_cases hk : k = x
    · rw [if_pos hk, decide_eq_true hk]; simp [h2]
    · rw [if_neg hk, decide_eq_false hk]; exact ih
  | [], _ :: _, _, h => by simp at h
  | _ :: _, [], _, h => by simp at h
instance {P : Program} {K : Nat} [hi : IntT P K .u64] : KeyT P K U64 where
  chk em w k := by
    show (Instr.checkKey em (9999 + 1) K (.int .u64 (k.n : Int))).run P w = .ok () w
    generalize 9999 = d
    rw [Instr.checkKey]
    simp [run_underlying hi.out]
  fnd vv w k l kvs h := MapKept.run_findKey hi.out (findNow_u64 vv k l kvs 0 h)
section
variable {κ ν : Type} [DecidableEq κ] [KV κ] {P : Program} {f : Fr} {w w0 : World} {S : List Ent} {R : Value → World → Prop} {d : Option Tmp} {T : TypeId} {pos : String} {af : Array Edge} {gd : Option (Nat × Bool)}
theorem opW.insert {t K E r : Nat} {x ix y : Operand} {k : κ} {v : ν} {vv : ν → Value} {kvs : List (κ × ν)} [hm : MapT P t K E] [hk : KeyT P K κ] (hS : St w0 S w) (he : Has (mapE r vv kvs) S) (hx : ev f x = .map (some r)) (hi : ev f ix = KV.kv k) (hy : ev f y = vv v)
    (h : ∀ w', (∀ S', Turn (mapE r vv kvs) (mapE r vv (aput k v kvs)) S S' → St w0 S' w') → R undef w') : opW P f ⟨d, .insert t x ix y, T, pos, af, gd⟩ w R := by
  have h0 := opW.mapUpdate (P := P) (f := f) (d := d) (t := t) (T := T) (pos := pos) (af := af) (gd := gd) hS he hx hi hy h
  unfold opW at h0 ⊢
  exact h0
/-- bytes, as many as an array has -/
theorem opW.arrAt {arr n e : Nat} {x : Operand} {v : Value} {xs : List UInt8} [ha : ArrT P arr n e] (hx : ev f x = v) (hs : SlR w v xs) (hn : xs.length = n) (h0 : 0 < n) (h : R (elemP v 0 1) w) : opW P f ⟨d, .sliceToArrayPointer arr x, T, pos, af, gd⟩ w R := by
  subst hn
  obtain ⟨ad, cap, rfl, hc, hr⟩ := hs.some_of h0
  obtain ⟨bl, of_, sp⟩ := ad
  have hsp : sp = none := hr.1
  subst hsp
  refine opW.of_run (v := elemP (.slice (some ⟨bl, of_, none⟩) xs.length cap) 0 1) (w' := w) ?_ h
  simp [execOp, Instr.arrayAt, hx, run_underlying ha.out, elemP]
/-- bytes as a vector -/
def vecOf (n : Nat) (xs : List UInt8) : Vector UInt8 n := if h : xs.length = n then ⟨xs.toArray, by simp [h]⟩ else vz n
theorem vecOf_eq {n : Nat} {xs : List UInt8} (h : xs.length = n) : (vecOf n xs).toList = xs := by unfold vecOf; rw [dif_pos h]; simp [Vector.toList]
theorem SlR.key {w : World} {v : Value} {xs : List UInt8} {n : Nat} (h : SlR w v xs) (hn : xs.length = n + 1) : Pt w (elemP v 0 1) (Enc.enc (vecOf (n + 1) xs)) := by
  obtain ⟨ad, cap, rfl, _, hr⟩ := h.some_of (by omega)
  refine ⟨ad.block, ad.off + 0 * 1, rfl, fun j u hu => ?_⟩
  rw [Nat.zero_mul, Nat.add_zero]
  refine hr.2 j u ?_
  rw [← Array.getElem?_toList, enc_vec_flat, vecOf_eq hn] at hu
  exact hu
theorem run_equal_ptrs {s E n : Nat} (hs : PtrT P s E) (hz : SizeT P E (n + 1)) (b o o2 : Nat) (w : World) : (Op.equal s (.pointer (some ⟨b, o, none⟩)) (.pointer (some ⟨b, o2, none⟩))).run P w = .ok (decide (o = o2)) w := by
  unfold Op.equal
  show (Op.equalIn (9999 + 1) s (.pointer (some ⟨b, o, none⟩)) (.pointer (some ⟨b, o2, none⟩))).run P w = _
  generalize 9999 = k
  have hb : ((⟨b, o, none⟩ : Addr) == ⟨b, o2, none⟩) = decide (o = o2) := by
    rw [Bool.eq_iff_iff, beq_iff_eq, decide_eq_true_eq]
    constructor
    · intro h; injection h
    · intro h; rw [h]
  simp [Op.equalIn, run_underlying hs.out, run_sizeOf' hz, samePointer, sameAddr, hb]
theorem opW.eqlPP {s t E n : Nat} {x y : Operand} {b o o2 : Nat} [hs : PtrT P s E] [hz : SizeT P E (n + 1)] (hx : ev f x = .pointer (some ⟨b, o, none⟩)) (hy : ev f y = .pointer (some ⟨b, o2, none⟩)) (h : R (.bool (decide (o = o2))) w) : opW P f ⟨d, .binOp .eql s x y t, T, pos, af, gd⟩ w R := by
  refine opW.of_run (v := .bool (decide (o = o2))) (w' := w) ?_ h
  have e1 : eqGuard .eql s x y (.pointer (some ⟨b, o, none⟩)) (.pointer (some ⟨b, o2, none⟩)) = pure () := rfl
  have e2 : binOp .eql s (.pointer (some ⟨b, o, none⟩)) (.pointer (some ⟨b, o2, none⟩)) = (do pure (.bool (← Op.equal s (.pointer (some ⟨b, o, none⟩)) (.pointer (some ⟨b, o2, none⟩))))) := rfl
  simp only [execOp, hx, hy, e1, e2, Sem.run_bind, Sem.run_pure, Result.andThen_ok, run_equal_ptrs hs hz]
/-- a whole array behind a pointer, as a slice -/
theorem opW.cutArrO {x : Operand} {t n E sz b o : Nat} [ht : ArrT P t n E] [hz : SizeT P E sz] (hx : ev f x = .pointer (some ⟨b, o, none⟩)) (h : R (.slice (some ⟨b, o, none⟩) n n) w) : opW P f ⟨d, .slice t x none none none, T, pos, af, gd⟩ w R := by
  refine opW.of_run (v := .slice (some ⟨b, o, none⟩) n n) (w' := w) ?_ h
  have hb : (Instr.sliceBounds false n n none none none).run P w = .ok (0, n, n) w := by
    unfold Instr.sliceBounds; simp
  simp only [execOp, Instr.sliceAt, Sem.run_bind, run_underlying ht.out, Result.andThen_ok, hx, Instr.sureAddr, Sem.run_pure, Option.map_none, hb, run_sizeOf' hz]
  simp [add_spot]
theorem flat_key {ys : List UInt8} {n : Nat} (h : ys.length = n + 1) : (flat ys).toArray = Enc.enc (vecOf (n + 1) ys) := by
  apply Array.ext'
  rw [enc_vec_flat, vecOf_eq h]
/-- copy onto an array that is a part of a variable: all of it -/
theorem opW.copyBlk {α : Type} [Enc α] {t t' E T' b o n : Nat} {x y : Operand} {cs cs' : Array Value} {ys : List α} [ht : SliceT P t E] [hs : SizeT P E (Enc.sz α)] (hS : St w0 S w) (hx : ev f x = .slice (some ⟨b, o, none⟩) n n) (he : Has (blkE b cs T') S) (hy : SlR w (ev f y) ys) (hl : ys.length = n) (h0 : 0 < n) (hle : o + n * Enc.sz α ≤ cs.size) (henc : spl cs o (flat ys).toArray = cs')
    (h : ∀ w', (∀ S', Turn (blkE b cs T') (blkE b cs' T') S S' → St w0 S' w') → R (.int .i64 (ys.length : Int)) w') : opW P f ⟨d, .call { callee := .builtin .copy, args := #[x, y], argTypes := #[t, t'] }, T, pos, af, gd⟩ w R := by
  have hpos := Enc.pos (α := α)
  obtain ⟨i, hi, hisz⟩ : ∃ i, P.info? E = some i ∧ i.size = Enc.sz α := by
    have h1 := hs.out
    cases hi : P.info? E with
    | none => simp [hi] at h1
    | some i => simp [hi] at h1; exact ⟨i, rfl, h1⟩
  have hg := hS.blk he
  obtain ⟨a, c, hu, hc1, hc2, hc3, hrow⟩ := hy
  obtain ⟨ad, rfl⟩ : ∃ ad, a = some ad := by
    cases a with
    | none => have := hc3 rfl; omega
    | some ad => exact ⟨ad, rfl⟩
  have hr := hrow ad rfl (by omega)
  have hsrc : ∀ (j : Nat) (u : Value), (flat ys)[j]? = some u → w.cell? (ad.add j) = some u := by
    intro j u hj
    have h2 := hr.2 j u hj
    have e : ad.add j = ⟨ad.block, ad.off + j, none⟩ := by
      have h1 := hr.1
      obtain ⟨b, o, s⟩ := ad
      simp only at h1
      subst h1
      exact add_spot b o j
    rw [e]; exact h2
  have hfl : (flat ys).length = ys.length * Enc.sz α := flat_length ys
  have hld := run_loadCells_list (P := P) w ad (flat ys) hsrc
  have hst := run_storeCells_at P b o T' (flat ys) 0 cs w hg (by rw [hfl, hl]; omega) (flat_one ys)
  simp only [Nat.add_zero] at hst
  have hspl : (cs.toList.take o ++ flat ys ++ cs.toList.drop (o + (flat ys).length)).toArray = spl cs o (flat ys).toArray := by
    unfold spl
    apply Array.ext'
    simp only [Array.toList_append, Array.toList_extract, List.extract_eq_take_drop, Nat.sub_zero, List.drop_zero, List.size_toArray]
    congr 1
    rw [List.take_of_length_le (by simp)]
  rw [hspl, henc] at hst
  subst hl
  have hmin : Nat.min ys.length ys.length = ys.length := Nat.min_self _
  refine opW.of_run (v := .int .i64 (ys.length : Int)) (w' := w.setRow b cs') ?_ (h _ fun S' hT => St.turn ?_ ?_ ?_ hS hT)
  · rw [hfl] at hld
    have e1 : (Builtin.firstCells (Enc.sz α) ys.length (.slice (some ad) ys.length c)).run P w = .ok (flat ys).toArray w := by simp [Builtin.firstCells, hld]
    simp [execOp, resolve, Go.invoke, builtin, hx, hu, Builtin.copy_, run_underlying ht.out, Builtin.lenOf, sizeOf, typeInfo, hi, hisz, hmin, goInt, e1, hst]
  · unfold blkE
    exact ⟨rfl, rfl, rfl, by simp [World.setRow], fun k _ hk => setRow_other w b k _ hk⟩
  · unfold blkE; exact setRow_heap w b cs _ T' _ hg
  · unfold blkE; intro k hk; exact .inl hk
end
end Go.Fer
