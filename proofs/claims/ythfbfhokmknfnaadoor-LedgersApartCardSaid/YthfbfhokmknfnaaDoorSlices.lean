/- Library, part 4 (slices): those that can be read, those that are the call's own; append, index, slice expressions. No condition: rules alone. -/
import Derived.Test.YthfbfhokmknfnaaDoorOps
set_option linter.all false
namespace Go.Fer
open Go Go.RowKit

/-- plain data of a fixed number of cells -/
class Enc (α : Type) where
  enc : α → Array Value
  sz : Nat
  pos : 0 < sz
  size_eq : ∀ a, (enc a).size = sz
  one : ∀ a, ∀ u ∈ (enc a).toList, u.oneCell' = true

section
variable {α : Type} [Enc α]
def flat (xs : List α) : List Value := xs.flatMap fun x => (Enc.enc x).toList
theorem flat_nil : flat ([] : List α) = [] := rfl
theorem flat_cons (x : α) (xs : List α) : flat (x :: xs) = (Enc.enc x).toList ++ flat xs := by simp [flat]
theorem flat_append (xs ys : List α) : flat (xs ++ ys) = flat xs ++ flat ys := by simp [flat]
theorem flat_length (xs : List α) : (flat xs).length = xs.length * Enc.sz α := by
  induction xs with
  | nil => simp [flat]
  | cons x xs ih => rw [flat_cons, List.length_append, ih, Array.length_toList, Enc.size_eq, List.length_cons, Nat.add_mul]; omega
theorem flat_one (xs : List α) : ∀ u ∈ flat xs, u.oneCell' = true := by
  intro u hu
  simp only [flat, List.mem_flatMap] at hu
  obtain ⟨x, _, hx⟩ := hu
  exact Enc.one x u hx
theorem flat_get (xs : List α) : ∀ (i : Nat) (x : α), xs[i]? = some x → ∀ (j : Nat) (u : Value), (Enc.enc x)[j]? = some u → (flat xs)[i * Enc.sz α + j]? = some u := by
  induction xs with
  | nil => intro i x hx; simp at hx
  | cons y ys ih =>
    intro i x hx j u hu
    have hj : j < Enc.sz α := by
      have := (Array.getElem?_eq_some_iff.1 hu).1
      rw [Enc.size_eq] at this; exact this
    rw [flat_cons]
    cases i with
    | zero =>
      simp at hx; subst hx
      rw [Nat.zero_mul, Nat.zero_add, List.getElem?_append_left (by rw [Array.length_toList, Enc.size_eq]; exact hj)]
      simpa using hu
    | succ i =>
      rw [List.getElem?_append_right (by rw [Array.length_toList, Enc.size_eq, Nat.succ_mul]; omega), Array.length_toList, Enc.size_eq]
      have := ih i x (by simpa using hx) j u hu
      rw [show (i + 1) * Enc.sz α + j - Enc.sz α = i * Enc.sz α + j by rw [Nat.succ_mul]; omega]
      exact this
theorem flat_take (xs : List α) (n : Nat) : flat (xs.take n) = (flat xs).take (n * Enc.sz α) := by
  rcases Nat.le_total n xs.length with h | h
  · have e : flat xs = flat (xs.take n) ++ flat (xs.drop n) := by rw [← flat_append, List.take_append_drop]
    rw [e, List.take_left' (by rw [flat_length, List.length_take, Nat.min_eq_left h])]
  · rw [List.take_of_length_le h, List.take_of_length_le]
    rw [flat_length]; exact Nat.mul_le_mul_right _ h
theorem flat_drop (xs : List α) (n : Nat) : flat (xs.drop n) = (flat xs).drop (n * Enc.sz α) := by
  rcases Nat.le_total n xs.length with h | h
  · have e : flat xs = flat (xs.take n) ++ flat (xs.drop n) := by rw [← flat_append, List.take_append_drop]
    rw [e, List.drop_left' (by rw [flat_length, List.length_take, Nat.min_eq_left h])]
  · rw [List.drop_of_length_le h, List.drop_of_length_le]
    · rfl
    · rw [flat_length]; exact Nat.mul_le_mul_right _ h

/-- the cells from an address on -/
def Row (w : World) (ad : Addr) (l : List Value) : Prop := ad.spot = none ∧ ∀ (j : Nat) (u : Value), l[j]? = some u → w.cell? ⟨ad.block, ad.off + j, none⟩ = some u
theorem Row.bel {w w' : World} {ad : Addr} {l : List Value} (hb : Bel w w') (h : Row w ad l) : Row w' ad l := ⟨h.1, fun j u hu => hb.cell (h.2 j u hu)⟩

/-- a slice that reads as a list -/
def SlR (w : World) (v : Value) (xs : List α) : Prop :=
  ∃ a cap, v = .slice a xs.length cap ∧ xs.length ≤ cap ∧ cap ≤ maxLen ∧ (a = none → cap = 0) ∧ ∀ ad, a = some ad → 0 < cap → Row w ad (flat xs)
theorem SlR.bel {w w' : World} {v : Value} {xs : List α} (hb : Bel w w') (h : SlR w v xs) : SlR w' v xs := by
  obtain ⟨a, cap, h1, h2, h3, h4, h5⟩ := h
  exact ⟨a, cap, h1, h2, h3, h4, fun ad had hc => (h5 ad had hc).bel hb⟩
theorem SlR.nil (w : World) : SlR w (.slice none 0 0) ([] : List α) := ⟨none, 0, rfl, Nat.le_refl _, Nat.zero_le _, fun _ => rfl, by simp⟩
theorem SlR.le {w : World} {v : Value} {xs : List α} (h : SlR w v xs) : xs.length ≤ maxLen := by obtain ⟨a, cap, _, h1, h2, _⟩ := h; omega
theorem SlR.eq {w : World} {v : Value} {xs : List α} (h : SlR w v xs) : ∃ a c, v = .slice a xs.length c := by obtain ⟨a, cap, h, _⟩ := h; exact ⟨a, cap, h⟩
theorem SlR.some_of {w : World} {v : Value} {xs : List α} (h : SlR w v xs) (h0 : 0 < xs.length) : ∃ ad cap, v = .slice (some ad) xs.length cap ∧ xs.length ≤ cap ∧ Row w ad (flat xs) := by
  obtain ⟨a, cap, h1, h2, h3, h4, h5⟩ := h
  cases a with
  | none => have := h4 rfl; omega
  | some ad => exact ⟨ad, cap, h1, h2, h5 ad rfl (by omega)⟩
theorem SlR.pt {w : World} {v : Value} {xs : List α} (h : SlR w v xs) {i : Nat} {x : α} (hx : xs[i]? = some x) : Pt w (elemP v i (Enc.sz α)) (Enc.enc x) := by
  obtain ⟨ad, cap, rfl, _, hr⟩ := h.some_of (Nat.lt_of_le_of_lt (Nat.zero_le _) (List.getElem?_eq_some_iff.1 hx).1)
  refine ⟨ad.block, ad.off + i * Enc.sz α, rfl, fun j u hu => ?_⟩
  rw [Nat.add_assoc]
  exact hr.2 _ u (flat_get xs i x hx j u hu)
theorem SlR.isP {w : World} {v : Value} {xs : List α} (h : SlR w v xs) {i sz : Nat} (hi : i < xs.length) : IsP (elemP v i sz) := by
  obtain ⟨ad, cap, rfl, _, hr⟩ := h.some_of (by omega)
  exact ⟨ad.block, _, rfl⟩

theorem SlR.isPt {w : World} {v : Value} {xs : List α} (h : SlR w v xs) {i : Nat} (hi : i < xs.length) : Pt w (elemP v i (Enc.sz α)) (Enc.enc (xs[i]'hi)) := h.pt (List.getElem?_eq_getElem hi)
/-- a slice value cut: s[l:h:m] (m: the capacity's end) -/
def cutV (v : Value) (l h m sz : Nat) : Value := match v with
  | .slice a _ _ => .slice (if m = l then a else a.map fun ad => ⟨ad.block, ad.off + l * sz, none⟩) (h - l) (m - l)
  | _ => undef
def capV (v : Value) : Nat := match v with | .slice _ _ c => c | _ => 0
theorem SlR.cut {w : World} {v : Value} {xs : List α} (hs : SlR w v xs) {l h m : Nat} (h1 : l ≤ h) (h2 : h ≤ xs.length) (h3 : h ≤ m) (h4 : m ≤ capV v) :
    SlR w (cutV v l h m (Enc.sz α)) ((xs.take h).drop l) := by
  obtain ⟨a, cap, rfl, i2, i3, i4, i5⟩ := hs
  have hlen : ((xs.take h).drop l).length = h - l := by simp; omega
  simp only [capV] at h4
  refine ⟨if m = l then a else a.map fun ad => ⟨ad.block, ad.off + l * Enc.sz α, none⟩, m - l, by simp only [cutV, hlen], by rw [hlen]; omega, by simp only [maxLen] at *; omega, ?_, ?_⟩
  · intro hn
    by_cases hm : m = l
    · omega
    · cases a with
      | none => have := i4 rfl; omega
      | some ad => simp [hm] at hn
  · intro ad had hcp
    by_cases hm : m = l
    · omega
    · simp only [hm, if_false] at had
      cases a with
      | none => simp at had
      | some ad' =>
        simp at had; subst had
        refine ⟨rfl, fun j u hu => ?_⟩
        rw [flat_drop, flat_take, List.getElem?_drop, List.getElem?_take] at hu
        split at hu
        · have := (i5 ad' rfl (by omega)).2 _ u hu
          simpa [Nat.add_assoc] using this
        · cases hu

/-! own slices -/
def OwnB (w : World) (v : Value) (e : TypeId) (xs : List α) : Prop :=
  (v = .slice none 0 0 ∧ xs = []) ∨
  ∃ g cap cur, v = .slice (some ⟨g, 0, none⟩) xs.length cap ∧ w.heap[g]? = some (.cells cur e (0, 0)) ∧ xs.length ≤ cap ∧ cap ≤ maxLen ∧ cap * Enc.sz α ≤ cur.size ∧
    cur.toList.take (xs.length * Enc.sz α) = flat xs
theorem OwnB.st {w w' : World} {v : Value} {e : TypeId} {xs : List α} (h : ∀ b, v.ownBlock = some b → w'.heap[b]? = w.heap[b]?) (ho : OwnB w v e xs) : OwnB w' v e xs := by
  rcases ho with ho | ⟨g, cap, cur, rfl, hg, rest⟩
  · exact .inl ho
  · exact .inr ⟨g, cap, cur, rfl, by rw [h g rfl]; exact hg, rest⟩
@[irreducible] def ownE (v : Value) (e : TypeId) (xs : List α) : Ent := ⟨fun k => v.ownBlock = some k, fun w => OwnB w v e xs, fun _ _ h hA => hA.st h⟩
theorem ownE_F (v : Value) (e : TypeId) (xs : List α) : (ownE v e xs).F = fun k => v.ownBlock = some k := by unfold ownE; rfl
theorem ownE_A (v : Value) (e : TypeId) (xs : List α) : (ownE v e xs).A = fun w => OwnB w v e xs := by unfold ownE; rfl
theorem OwnB.sl {w : World} {v : Value} {e : TypeId} {xs : List α} (h : OwnB w v e xs) : SlR w v xs := by
  rcases h with ⟨rfl, rfl⟩ | ⟨g, cap, cur, rfl, hg, h1, h2, h3, h4⟩
  · exact SlR.nil w
  · refine ⟨some ⟨g, 0, none⟩, cap, rfl, h1, h2, by simp, fun ad had _ => ?_⟩
    simp at had; subst had
    refine ⟨rfl, fun j u hu => ?_⟩
    rw [cell_blk hg, Nat.zero_add]
    rw [← h4, List.getElem?_take] at hu
    split at hu
    · simpa using hu
    · cases hu
section
variable {w0 w : World} {S : List Ent}
theorem St.own {v : Value} {e : TypeId} {xs : List α} (h : St w0 S w) (he : Has (ownE v e xs) S) : OwnB w v e xs := by have := h.get he; rw [ownE_A] at this; exact this
theorem St.sl {v : Value} {e : TypeId} {xs : List α} (h : St w0 S w) (he : Has (ownE v e xs) S) : SlR w v xs := (h.own he).sl
theorem St.nilOwn (h : St w0 S w) (e : TypeId) : St w0 (ownE (α := α) (.slice none 0 0) e [] :: S) w :=
  h.new (Bel.refl w) (by rw [ownE_A]; exact .inl ⟨rfl, rfl⟩) (by rw [ownE_F]; intro k hk; simp [Value.ownBlock] at hk)
/-- what a call hands back is the caller's -/
theorem St.newOwn {w' : World} {v : Value} {e : TypeId} {xs : List α} (h : St w0 S w) (hb : Bel w w') (ho : OwnB w' v e xs) (hf : ∀ k, v.ownBlock = some k → w.heap.size ≤ k) : St w0 (ownE v e xs :: S) w' :=
  h.new hb (by rw [ownE_A]; exact ho) (by
    rw [ownE_F]
    intro k hk
    refine ⟨hf k hk, ?_⟩
    rcases ho with ⟨rfl, _⟩ | ⟨g, cap, cur, rfl, hg, _⟩
    · simp [Value.ownBlock] at hk
    · simp [Value.ownBlock] at hk; subst hk; exact (Array.getElem?_eq_some_iff.1 hg).1)
theorem St.own_new {v : Value} {e : TypeId} {xs : List α} (h : St w0 S w) (he : Has (ownE v e xs) S) : OwnB w v e xs ∧ ∀ k, v.ownBlock = some k → w0.heap.size ≤ k := by
  have h2 := (h.all _ he.mem).2
  rw [ownE_F] at h2
  exact ⟨h.own he, fun k hk => (h2 k hk).1⟩
end
/-- a slice in new memory, that nobody else has -/
def New (w w' : World) (v : Value) (e : TypeId) (xs : List α) : Prop := OwnB w' v e xs ∧ ∀ k, v.ownBlock = some k → w.heap.size ≤ k

theorem run_append_OwnB {P : Program} {w : World} {t ty e : TypeId} {by_ : Nat} (ht : SliceT P t e) (hsz : SizeT P e (Enc.sz α)) (hby : BytesT P e by_) {z : Value} (hz : ZeroT P e z) (hzs : z.cells.size = Enc.sz α)
    {v u : Value} {xs ys : List α} (ho : OwnB w v e xs) (hs : SlR w u ys) (hlen : (xs.length + ys.length) * by_ ≤ 140737488355328) (hlen2 : xs.length + ys.length ≤ maxLen) :
    ∃ v' w', (Builtin.append_ #[t, t] ty #[v, u]).run P w = .ok v' w' ∧ OwnB w' v' e (xs ++ ys) ∧ Chg (fun k => v.ownBlock = some k) w w' ∧
      ∀ k, v'.ownBlock = some k → v.ownBlock = some k ∨ (w.heap.size ≤ k ∧ k < w'.heap.size) := by
  obtain ⟨i, hi, hisz, hiby, hiz⟩ : ∃ i, P.info? e = some i ∧ i.size = Enc.sz α ∧ i.bytes = by_ ∧ i.zero = some z := by
    have h1 := hsz.out; have h2 := hby.out; have h3 := hz.out
    cases hi : P.info? e with
    | none => simp [hi] at h1
    | some i => simp [hi] at h1 h2 h3; exact ⟨i, rfl, h1, h2, h3⟩
  have hpos := Enc.pos (α := α)
  have h63 : ((xs.length + ys.length : Nat) : Int) ≤ 9223372036854775807 := by simp only [maxLen] at hlen2; omega
  have hfl : (flat (xs ++ ys)).length = (xs.length + ys.length) * Enc.sz α := by rw [flat_length, List.length_append]
  have refl_chg : Chg (fun k => v.ownBlock = some k) w w := ⟨rfl, rfl, rfl, Nat.le_refl _, fun _ _ _ => rfl⟩
  have newrow : ∀ (old : Nat), Chg (fun k => v.ownBlock = some k) w (w.drew.alloc (.cells ((flat xs).toArray ++ (flat ys).toArray ++ Builtin.zeroCells z.cells (grownCap w (xs.length + ys.length) old e - (xs.length + ys.length))) e)) ∧
      OwnB (w.drew.alloc (.cells ((flat xs).toArray ++ (flat ys).toArray ++ Builtin.zeroCells z.cells (grownCap w (xs.length + ys.length) old e - (xs.length + ys.length))) e))
        (.slice (some ⟨w.heap.size, 0, none⟩) (xs.length + ys.length) (grownCap w (xs.length + ys.length) old e)) e (xs ++ ys) ∧
      ∀ k, (Value.slice (some ⟨w.heap.size, 0, none⟩) (xs.length + ys.length) (grownCap w (xs.length + ys.length) old e)).ownBlock = some k → v.ownBlock = some k ∨
        (w.heap.size ≤ k ∧ k < (w.drew.alloc (.cells ((flat xs).toArray ++ (flat ys).toArray ++ Builtin.zeroCells z.cells (grownCap w (xs.length + ys.length) old e - (xs.length + ys.length))) e)).heap.size) := by
    intro old
    have hge := grownCap_ge w (xs.length + ys.length) old e
    have hcm : grownCap w (xs.length + ys.length) old e ≤ maxLen := grownCap_le_maxLen w _ old e hlen2
    refine ⟨⟨rfl, rfl, rfl, by simp, fun k hk _ => heap_alloc_old w.drew _ hk⟩, .inr ⟨w.heap.size, _, _, by rw [List.length_append], heap_alloc_new w.drew _, by rw [List.length_append]; exact hge, hcm, ?_, ?_⟩, ?_⟩
    · simp only [Array.size_append, List.size_toArray, size_zeroCells, hzs, flat_length, ← Nat.add_mul]
      refine Nat.mul_le_mul_right _ ?_
      omega
    · simp only [Array.toList_append]
      rw [List.length_append, ← flat_append, ← hfl]
      exact List.take_left
    · intro k hk
      simp [Value.ownBlock] at hk; subst hk
      exact .inr ⟨Nat.le_refl _, by simp⟩
  by_cases hys : ys.length = 0
  · have hy0 : ys = [] := List.eq_nil_of_length_eq_zero hys
    subst hy0
    refine ⟨v, w, ?_, by simpa using ho, refl_chg, fun k hk => .inl hk⟩
    obtain ⟨a, c, hu, _, _, _, _⟩ := hs
    subst hu
    rcases ho with ⟨rfl, rfl⟩ | ⟨g, cap, cur, rfl, hg, h1, h2, h3, h4⟩
    · cases a <;> simp [Builtin.append_, run_underlying ht.out, sizeOf, typeInfo, hi, Builtin.lenOf, Builtin.firstCells, loadCells, loadCellsFrom]
    · cases a <;> simp [Builtin.append_, run_underlying ht.out, sizeOf, typeInfo, hi, Builtin.lenOf, Builtin.firstCells, loadCells, loadCellsFrom, h1, storeCells]
  · obtain ⟨ad, cap', hu, hcap', hrow⟩ := hs.some_of (by omega)
    subst hu
    have hnews : ∀ (j : Nat) (u : Value), (flat ys)[j]? = some u → w.cell? (ad.add j) = some u := by
      intro j u hj
      have := hrow.2 j u hj
      have e : ad.add j = ⟨ad.block, ad.off + j, none⟩ := by
        have h1 := hrow.1
        obtain ⟨b, o, s⟩ := ad
        simp only at h1
        subst h1
        exact add_spot b o j
      rw [e]; exact this
    have hl : (flat ys).length = ys.length * i.size := by rw [flat_length, hisz]
    rcases ho with ⟨rfl, rfl⟩ | ⟨g, cap, cur, rfl, hg, h1, h2, h3, h4⟩
    · have hr := run_append_nil (P := P) w t ty e i z ht.out hi hiz ad ys.length cap' (flat ys) hl hnews (by omega) (by simp at h63; omega) (by rw [hiby]; simp at hlen; omega)
      have hn := newrow 0
      simp only [List.length_nil, Nat.zero_add, List.nil_append, flat_nil] at hn ⊢
      simp only [show (#[] : Array Value) ++ (flat ys).toArray = (flat ys).toArray by simp] at hn
      exact ⟨_, _, hr, hn.2.1, hn.1, hn.2.2⟩
    · by_cases hroom : xs.length + ys.length ≤ cap
      · have hfit : xs.length * i.size + (flat ys).length ≤ cur.size := by
          rw [hl, ← Nat.add_mul, hisz]
          exact Nat.le_trans (Nat.mul_le_mul_right _ hroom) h3
        have hr := run_append_room (P := P) w t ty e i ht.out hi g xs.length cap cur hg ad ys.length cap' (flat ys) hl hnews (flat_one ys) hroom hfit
        refine ⟨_, _, hr, .inr ⟨g, cap, _, by rw [List.length_append], setRow_heap w g cur _ e _ hg, by rw [List.length_append]; exact hroom, h2, ?_, ?_⟩, ⟨rfl, rfl, rfl, by simp [World.setRow], fun k _ hk => setRow_other w g k _ (fun e => hk (by simp [Value.ownBlock, e]))⟩, fun k hk => .inl (by simpa [Value.ownBlock] using hk)⟩
        · simp only [List.size_toArray, List.length_append, List.length_take, List.length_drop, Array.length_toList, hisz] at hfit ⊢
          omega
        · rw [hisz, h4, List.length_append, ← flat_append, ← hfl]
          exact List.take_left
      · have holds : ∀ (j : Nat) (u : Value), (flat xs)[j]? = some u → w.cell? ((⟨g, 0, none⟩ : Addr).add j) = some u := by
          intro j u hj
          rw [add_spot, cell_blk hg, Nat.zero_add]
          rw [← h4, List.getElem?_take] at hj
          split at hj
          · simpa using hj
          · cases hj
        have hr := run_append_grow (P := P) w t ty e i z ht.out hi hiz ⟨g, 0, none⟩ xs.length cap (flat xs) (by rw [flat_length, hisz]) holds ad ys.length cap' (flat ys) hl hnews (by omega) h63 (growslice_fits (by omega) (by rw [hiby]; exact hlen))
        have hn := newrow cap
        exact ⟨_, _, hr, hn.2.1, hn.1, hn.2.2⟩
end

/-! the rules -/
section
variable {α : Type} [Enc α] {P : Program} {f : Fr} {w w0 : World} {S : List Ent} {R : Value → World → Prop} {d : Option Tmp} {T : TypeId} {pos : String} {af : Array Edge} {gd : Option (Nat × Bool)}

theorem opW.lenS {x : Operand} {t E : Nat} {xs : List α} [SliceT P t E] (hs : SlR w (ev f x) xs) (h : R (.int .i64 xs.length) w) :
    opW P f ⟨d, .call { callee := .builtin .len, args := #[x], argTypes := #[t] }, T, pos, af, gd⟩ w R := by
  obtain ⟨a, c, he⟩ := hs.eq
  exact opW.len he h

theorem opW.idx {x ix : Operand} {t E : Nat} {k : IntKind} {i : Int} {xs : List α} [ht : SliceT P t E] [hz : SizeT P E (Enc.sz α)] (hs : SlR w (ev f x) xs) (hi : ev f ix = .int k i) (hb : 0 ≤ i ∧ i < (xs.length : Int))
    (h : R (elemP (ev f x) i.toNat (Enc.sz α)) w) : opW P f ⟨d, .indexAddr t x ix, T, pos, af, gd⟩ w R := by
  obtain ⟨ad, cap, he, hc, hr⟩ := hs.some_of (by omega)
  refine opW.of_run (v := elemP (ev f x) i.toNat (Enc.sz α)) (w' := w) ?_ h
  have e : ad.add (i.toNat * Enc.sz α) = ⟨ad.block, ad.off + i.toNat * Enc.sz α, none⟩ := by
    have h1 := hr.1
    obtain ⟨b, o, s⟩ := ad
    simp only at h1
    subst h1
    exact add_spot b o _
  simp [execOp, Instr.indexAt, hi, asIntOf, run_underlying ht.out, he, hb, run_sizeOf' hz, e, elemP]

/-- 's[lo:hi:max]' on a slice -/
theorem opW.cut {x : Operand} {lo hi mx : Option Operand} {t E sz : Nat} {a : Option Addr} {n c l h' m : Nat} [ht : SliceT P t E] [hz : SizeT P E sz] (hx : ev f x = .slice a n c)
    (hm : (match mx with | some o => ∃ k, ev f o = .int k (m : Int) | none => m = c) ∧ m ≤ c)
    (hh : (match hi with | some o => ∃ k, ev f o = .int k (h' : Int) | none => h' = n ∧ mx = none) ∧ h' ≤ m)
    (hl : (match lo with | some o => ∃ k, ev f o = .int k (l : Int) | none => l = 0) ∧ l ≤ h')
    (hsp : m ≠ l → ∀ ad, a = some ad → ad.spot = none)
    (h : R (cutV (ev f x) l h' m sz) w) : opW P f ⟨d, .slice t x lo hi mx, T, pos, af, gd⟩ w R := by
  refine opW.of_run (v := cutV (ev f x) l h' m sz) (w' := w) ?_ h
  obtain ⟨hm1, hm2⟩ := hm
  obtain ⟨hh1, hh2⟩ := hh
  obtain ⟨hl1, hl2⟩ := hl
  have e : m ≠ l → ∀ ad, a = some ad → ad.add (l * sz) = ⟨ad.block, ad.off + l * sz, none⟩ := by
    intro hml ad had
    have h1 := hsp hml ad had
    obtain ⟨b, o, s⟩ := ad
    simp only at h1
    subst h1
    exact add_spot b o _
  have sb : ∀ (x : Operand) (y k : Nat) (code : BoundsCode), (∃ kd, ev f x = .int kd (k : Int)) → k ≤ y → (Instr.sliceBound (ev f x) y code).run P w = .ok k w := by
    intro x y k code ⟨kd, hx⟩ hk
    have : (k : Int) ≤ (y : Int) := by omega
    simp [Instr.sliceBound, hx, asIntOf, this]
  have hbounds : (Instr.sliceBounds true n c (lo.map (ev f)) (hi.map (ev f)) (mx.map (ev f))).run P w = .ok (l, h', m) w := by
    unfold Instr.sliceBounds
    cases mx with
    | none =>
      simp only at hm1; subst hm1
      cases hi with
      | none =>
        obtain ⟨rfl, _⟩ := hh1
        cases lo with
        | none => simp only at hl1; subst hl1; simp
        | some lo => simp [sb lo h' l _ hl1 hl2]
      | some hi =>
        cases lo with
        | none => simp only at hl1; subst hl1; simp [sb hi m h' _ hh1 hh2]
        | some lo => simp [sb hi m h' _ hh1 hh2, sb lo h' l _ hl1 hl2]
    | some mx =>
      cases hi with
      | none => simp at hh1
      | some hi =>
        cases lo with
        | none => simp only at hl1; subst hl1; simp [sb mx c m _ hm1 hm2, sb hi m h' _ hh1 hh2]
        | some lo => simp [sb mx c m _ hm1 hm2, sb hi m h' _ hh1 hh2, sb lo h' l _ hl1 hl2]
  simp only [execOp, Instr.sliceAt, Sem.run_bind, run_underlying ht.out, Result.andThen_ok, hx, Instr.slice, hbounds, run_sizeOf' hz, Sem.run_pure]
  cases a with
  | none => simp [cutV]
  | some ad =>
    by_cases hm : m = l
    · simp [cutV, hm]
    · simp [cutV, hm, e hm ad rfl]
theorem SlR.cap {v : Value} {xs : List α} (h : SlR w v xs) : xs.length ≤ capV v := by obtain ⟨a, c, rfl, h1, _⟩ := h; exact h1
theorem opW.cutS {x : Operand} {lo hi mx : Option Operand} {t E : Nat} {xs : List α} {l h' m : Nat} [SliceT P t E] [SizeT P E (Enc.sz α)] (hs : SlR w (ev f x) xs)
    (hm : (match mx with | some o => ∃ k, ev f o = .int k (m : Int) | none => m = capV (ev f x)) ∧ m ≤ capV (ev f x))
    (hh : (match hi with | some o => ∃ k, ev f o = .int k (h' : Int) | none => h' = xs.length ∧ mx = none) ∧ h' ≤ m)
    (hl : (match lo with | some o => ∃ k, ev f o = .int k (l : Int) | none => l = 0) ∧ l ≤ h')
    (h : R (cutV (ev f x) l h' m (Enc.sz α)) w) : opW P f ⟨d, .slice t x lo hi mx, T, pos, af, gd⟩ w R := by
  obtain ⟨a, c, he, h1, h2, h3, hr⟩ := hs
  have hc : capV (ev f x) = c := by rw [he]; rfl
  rw [hc] at hm
  exact opW.cut he hm hh hl (fun hml ad had => (hr ad had (by omega)).1) h

theorem opW.appendOwn {x y : Operand} {t E by_ : Nat} {z v : Value} {xs ys : List α} [ht : SliceT P t E] [hz : SizeT P E (Enc.sz α)] [hb : BytesT P E by_] [hzz : ZeroT P E z] (hzs : z.cells.size = Enc.sz α)
    (hS : St w0 S w) (hx : ev f x = v) (ho : Has (ownE v E xs) S) (hy : SlR w (ev f y) ys) (hl1 : (xs.length + ys.length) * by_ ≤ 140737488355328) (hl2 : xs.length + ys.length ≤ maxLen)
    (h : ∀ v' w', (∀ S', Turn (ownE v E xs) (ownE v' E (xs ++ ys)) S S' → St w0 S' w') → R v' w') :
    opW P f ⟨d, .call { callee := .builtin .append, args := #[x, y], argTypes := #[t, t] }, T, pos, af, gd⟩ w R := by
  obtain ⟨v', w', hr, h1, h2, h3⟩ := run_append_OwnB (P := P) (ty := T) ht hz hb hzz hzs (hS.own ho) hy hl1 hl2
  refine opW.of_run (v := v') (w' := w') ?_ (h v' w' fun S' hT => St.turn (by rw [ownE_F]; exact h2) (by rw [ownE_A]; exact h1) (by rw [ownE_F, ownE_F]; exact h3) hS hT)
  simp [execOp, resolve, invoke, builtin, hx, hr]

/-- a slice written out: one new row -/
theorem St.newRow' {cs : Array Value} {E : TypeId} (hS : St w0 S w) (xs : List α) (hc : cs.toList = flat xs) (hl : xs.length ≤ maxLen) :
    St w0 (ownE (.slice (some ⟨w.heap.size, 0, none⟩) xs.length xs.length) E xs :: S) (w.alloc (.cells cs E)) := by
  refine hS.newOwn (Bel.alloc w _) (.inr ⟨w.heap.size, xs.length, cs, rfl, heap_alloc_new w _, Nat.le_refl _, hl, ?_, ?_⟩) ?_
  · rw [← Array.length_toList, hc, flat_length]; exact Nat.le_refl _
  · rw [List.take_of_length_le (by rw [hc, flat_length]; exact Nat.le_refl _), hc]
  · intro k hk; simp [Value.ownBlock] at hk; omega
end
end Go.Fer
