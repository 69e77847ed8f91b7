/- Library, part 18 (make of a slice, copy onto an own slice). No condition: rules alone. -/
import Derived.Test.YthfbfhokmknfnaaDoorBits
import Derived.Laws.MakeOwn
import Derived.Laws.CopyRow
set_option linter.all false
namespace Go.Fer
open Go Go.RowKit
section
variable {α : Type} [Enc α]
theorem flat_rep_get (z : α) : ∀ (n j : Nat), (flat (List.replicate n z))[j]? = if j < n * Enc.sz α then (Enc.enc z)[j % Enc.sz α]? else none
  | 0, j => by simp [flat]
  | n + 1, j => by
    have hpos := Enc.pos (α := α)
    have hl : (Enc.enc z).toList.length = Enc.sz α := by simp [Enc.size_eq]
    rw [List.replicate_succ, flat_cons, List.getElem?_append, hl, Nat.succ_mul]
    by_cases h : j < Enc.sz α
    · rw [if_pos h, if_pos (by omega), Nat.mod_eq_of_lt h]; simp
    · rw [if_neg h, flat_rep_get z n (j - Enc.sz α)]
      have e : (j - Enc.sz α) % Enc.sz α = j % Enc.sz α := (Nat.mod_eq_sub_mod (by omega)).symm
      rw [e]
      by_cases h2 : j - Enc.sz α < n * Enc.sz α
      · rw [if_pos h2, if_pos (by omega)]
      · rw [if_neg h2, if_neg (by omega)]
theorem made_flat (z : α) (n : Nat) : (madeCells (Enc.enc z) (n * Enc.sz α)).toList = flat (List.replicate n z) := by
  have hpos := Enc.pos (α := α)
  apply List.ext_getElem?
  intro j
  rw [flat_rep_get]
  simp only [madeCells, Array.toList_map, Array.toList_range, List.getElem?_map, Enc.size_eq]
  by_cases h : j < n * Enc.sz α
  · rw [if_pos h, List.getElem?_range h]
    have h2 : j % Enc.sz α < (Enc.enc z).size := by rw [Enc.size_eq]; exact Nat.mod_lt _ hpos
    simp [h2]
  · rw [if_neg h, List.getElem?_eq_none (by simp; omega)]; rfl
variable {P : Program} {f : Fr} {w w0 : World} {S : List Ent} {R : Value → World → Prop} {d : Option Tmp} {T : TypeId} {pos : String} {af : Array Edge} {gd : Option (Nat × Bool)}
theorem opW.makeSl {t E by_ n : Nat} {x y : Operand} (z : α) [ht : SliceT P t E] [hs : SizeT P E (Enc.sz α)] [hb : BytesT P E by_] {zv : Value} [hz : ZeroT P E zv] (hzv : zv.cells = Enc.enc z) (hS : St w0 S w)
    (hx : ev f x = .int .i64 (n : Int)) (hy : ev f y = .int .i64 (n : Int)) (hby : by_ * n ≤ 281474976710656) (hn : n ≤ maxLen)
    (h : ∀ b w', Bel w w' → St w0 (ownE (.slice (some ⟨b, 0, none⟩) n n) E (List.replicate n z) :: S) w' → R (.slice (some ⟨b, 0, none⟩) n n) w') : opW P f ⟨d, .makeSlice t x y, T, pos, af, gd⟩ w R := by
  obtain ⟨i, hi, hisz, hiby, hiz⟩ : ∃ i, P.info? E = some i ∧ i.size = Enc.sz α ∧ i.bytes = by_ ∧ i.zero = some zv := by
    have h1 := hs.out; have h2 := hb.out; have h3 := hz.out
    cases hi : P.info? E with
    | none => simp [hi] at h1
    | some i => simp [hi] at h1 h2 h3; exact ⟨i, rfl, h1, h2, h3⟩
  have hb' : (i.bytes : Int) * (n : Int) ≤ 281474976710656 := by
    rw [hiby, ← Int.natCast_mul]; omega
  have hr := run_make (P := P) w t E i zv ht.out hi hiz .i64 .i64 n n (by omega) (Int.le_refl _) hb' (by simp only [maxLen] at hn; omega)
  simp only [Int.toNat_natCast, hzv, hisz] at hr
  have hS2 := hS.newRow' (cs := madeCells (Enc.enc z) (n * Enc.sz α)) (E := E) (List.replicate n z) (made_flat z n) (by simpa using hn)
  simp only [List.length_replicate] at hS2
  refine opW.of_run (v := .slice (some ⟨w.heap.size, 0, none⟩) n n) (w' := w.alloc (.cells (madeCells (Enc.enc z) (n * Enc.sz α)) E)) ?_ (h _ _ (Bel.alloc w _) hS2)
  simp [execOp, hx, hy, hr]
/-- all of an own slice is written over -/
theorem opW.copyAll {t t' E : Nat} {x y : Operand} {v : Value} {xs ys : List α} [ht : SliceT P t E] [hs : SizeT P E (Enc.sz α)] (hS : St w0 S w) (he : Has (ownE v E xs) S) (hx : ev f x = v) (hy : SlR w (ev f y) ys) (hl : xs.length = ys.length)
    (h : ∀ w', (∀ S', Turn (ownE v E xs) (ownE v E ys) S S' → St w0 S' w') → R (.int .i64 (ys.length : Int)) w') : opW P f ⟨d, .call { callee := .builtin .copy, args := #[x, y], argTypes := #[t, t'] }, T, pos, af, gd⟩ w R := by
  have hpos := Enc.pos (α := α)
  obtain ⟨i, hi, hisz⟩ : ∃ i, P.info? E = some i ∧ i.size = Enc.sz α := by
    have h1 := hs.out
    cases hi : P.info? E with
    | none => simp [hi] at h1
    | some i => simp [hi] at h1; exact ⟨i, rfl, h1⟩
  have hown := hS.own he
  obtain ⟨a, c, hu, hc1, hc2, hc3, hrow⟩ := hy
  rcases hown with ⟨rfl, rfl⟩ | ⟨g, cap, cur, rfl, hg, g1, g2, g3, g4⟩
  · have hy0 : ys = [] := List.eq_nil_of_length_eq_zero (by simpa using hl.symm)
    subst hy0
    refine opW.of_run (v := .int .i64 0) (w' := w) ?_ (h w fun S' hT => St.turn ⟨rfl, rfl, rfl, Nat.le_refl _, fun _ _ _ => rfl⟩ (hS.get he) (fun k hk => .inl hk) hS hT)
    have hl0 : ∀ (x : Addr), (loadCells x 0).run P w = .ok #[] w := fun x => by simpa using run_loadCells_list (P := P) w x [] (by simp)
    cases a <;> simp [execOp, resolve, invoke, builtin, hx, hu, Builtin.copy_, run_underlying ht.out, Builtin.lenOf, Builtin.firstCells, sizeOf, typeInfo, hi, goInt, hl0]
  · by_cases hn : ys.length = 0
    · have hy0 : ys = [] := List.eq_nil_of_length_eq_zero hn
      subst hy0
      have hx0 : xs = [] := List.eq_nil_of_length_eq_zero (by simpa using hl)
      subst hx0
      refine opW.of_run (v := .int .i64 0) (w' := w) ?_ (h w fun S' hT => St.turn ⟨rfl, rfl, rfl, Nat.le_refl _, fun _ _ _ => rfl⟩ (hS.get he) (fun k hk => .inl hk) hS hT)
      have hl0 : ∀ (x : Addr), (loadCells x 0).run P w = .ok #[] w := fun x => by simpa using run_loadCells_list (P := P) w x [] (by simp)
      cases a <;> simp [execOp, resolve, invoke, builtin, hx, hu, Builtin.copy_, run_underlying ht.out, Builtin.lenOf, Builtin.firstCells, sizeOf, typeInfo, hi, goInt, hl0, storeCells]
    · have hsome : ∃ ad, a = some ad := by
        cases a with
        | none => have := hc3 rfl; omega
        | some ad => exact ⟨ad, rfl⟩
      obtain ⟨ad, rfl⟩ := hsome
      have hr := hrow ad rfl (by omega)
      have hsrc : ∀ (j : Nat) (u : Value), (flat ys)[j]? = some u → w.cell? (ad.add j) = some u := by
        intro j u hj
        have h2 := hr.2 j u hj
        have e : ad.add j = ⟨ad.block, ad.off + j, none⟩ := by
          have h1 := hr.1
          obtain ⟨b, o, s⟩ := ad
          simp only at h1
          subst h1
          exact add_spot b o j
        rw [e]; exact h2
      have hfl : (flat ys).length = ys.length * Enc.sz α := flat_length ys
      have hmul : ys.length * Enc.sz α ≤ cap * Enc.sz α := Nat.mul_le_mul_right _ (by omega)
      have hld := run_loadCells_list (P := P) w ad (flat ys) hsrc
      have hst := run_storeCells_at P g 0 E (flat ys) 0 cur w hg (by omega) (flat_one ys)
      simp only [Nat.zero_add, Nat.add_zero] at hst
      have hmin : Nat.min ys.length xs.length = ys.length := by rw [hl]; exact Nat.min_self _
      refine opW.of_run (v := .int .i64 (ys.length : Int)) (w' := w.setRow g (cur.toList.take 0 ++ flat ys ++ cur.toList.drop (flat ys).length).toArray) ?_ (h _ fun S' hT => St.turn ?_ ?_ ?_ hS hT)
      · rw [hfl] at hld
        have e1 : (Builtin.firstCells (Enc.sz α) ys.length (.slice (some ad) ys.length c)).run P w = .ok (flat ys).toArray w := by simp [Builtin.firstCells, hld]
        simp [execOp, resolve, invoke, builtin, hx, hu, Builtin.copy_, run_underlying ht.out, Builtin.lenOf, sizeOf, typeInfo, hi, hisz, hmin, goInt, e1, hst]
      · rw [ownE_F]
        exact ⟨rfl, rfl, rfl, by simp [World.setRow], fun k _ hk => setRow_other w g k _ (fun e => hk (by simp [Value.ownBlock, e]))⟩
      · rw [ownE_A]
        refine .inr ⟨g, cap, _, by rw [hl], setRow_heap w g cur _ E _ hg, by omega, g2, ?_, ?_⟩
        · simp only [List.size_toArray, List.length_append, List.length_take, List.length_drop, Array.length_toList]; omega
        · simp only [List.take_zero, List.nil_append, ← hfl]
          exact List.take_left
      · rw [ownE_F, ownE_F]; exact fun k hk => .inl hk
end
end Go.Fer
