/- tails of own slices -/
import Derived.Test.YtppgmnljciakhaaF
set_option linter.all false
namespace Go.Fer
open Go Go.Proofs Go.RowKit

section
variable {α : Type} [Enc α] {P : Program}
/-- an append to an empty slice that points anywhere -/
theorem run_append_end {w : World} {t ty e by_ : Nat} (ht : SliceT P t e) (hsz : SizeT P e (Enc.sz α)) (hby : BytesT P e by_) {z : Value} (hz : ZeroT P e z) (hzs : z.cells.size = Enc.sz α)
    {u : Value} {g bo : Nat} {ys : List α} (hs : SlR w u ys) (hys : 0 < ys.length) (hlen : ys.length * by_ ≤ 140737488355328) (hlen2 : ys.length ≤ maxLen) :
    ∃ v' w', (Builtin.append_ #[t, t] ty #[.slice (some ⟨g, bo, none⟩) 0 0, u]).run P w = .ok v' w' ∧ OwnB w' v' e ys ∧ Chg (fun k => (Value.slice none 0 0).ownBlock = some k) w w' ∧
      ∀ k, v'.ownBlock = some k → (w.heap.size ≤ k ∧ k < w'.heap.size) := by
  obtain ⟨i, hi, hisz, hiby, hiz⟩ : ∃ i, P.info? e = some i ∧ i.size = Enc.sz α ∧ i.bytes = by_ ∧ i.zero = some z := by
    have h1 := hsz.out; have h2 := hby.out; have h3 := hz.out
    cases hi : P.info? e with
    | none => simp [hi] at h1
    | some i => simp [hi] at h1 h2 h3; exact ⟨i, rfl, h1, h2, h3⟩
  have hpos := Enc.pos (α := α)
  have h63 : ((0 + ys.length : Nat) : Int) ≤ 9223372036854775807 := by simp only [maxLen] at hlen2; omega
  obtain ⟨ad, cap', hu, hcap', hrow⟩ := hs.some_of hys
  subst hu
  have hnews : ∀ (j : Nat) (u : Value), (flat ys)[j]? = some u → w.cell? (ad.add j) = some u := by
    intro j u hj
    have := hrow.2 j u hj
    have e : ad.add j = ⟨ad.block, ad.off + j, none⟩ := by
      have h1 := hrow.1
      obtain ⟨b, o, s⟩ := ad
      simp only at h1
      subst h1
      exact add_spot b o j
    rw [e]; exact this
  have hl : (flat ys).length = ys.length * i.size := by rw [flat_length, hisz]
  have hge := grownCap_ge w (0 + ys.length) 0 e
  have hcm : grownCap w (0 + ys.length) 0 e ≤ maxLen := grownCap_le_maxLen w _ _ e (by omega)
  have hr := run_append_grow (P := P) (w := w) t ty e i z ht.out hi hiz ⟨g, bo, none⟩ 0 0 ([] : List Value) (by simp) (fun j u hj => by simp at hj) ad ys.length cap' (flat ys) hl hnews (by omega) h63 (growslice_fits (by omega) (by rw [hiby, Nat.zero_add]; exact hlen))
  refine ⟨_, _, hr, .inr ⟨w.heap.size, _, _, by simp, heap_alloc_new w.drew _, by simpa using hge, hcm, ?_, ?_⟩, ⟨rfl, rfl, rfl, by simp, fun k hk _ => heap_alloc_old w.drew _ hk⟩, ?_⟩
  · simp only [Array.size_append, List.size_toArray, size_zeroCells, hzs, flat_length, ← Nat.add_mul, List.length_nil, Nat.zero_add]
    refine Nat.mul_le_mul_right _ ?_
    omega
  · simp only [Array.toList_append, List.nil_append]
    rw [← flat_length]
    exact List.take_left
  · intro k hk
    simp [Value.ownBlock] at hk; subst hk
    exact ⟨Nat.le_refl _, by simp⟩
/-- a value that is the tail of an own slice; if its place is used up it may point anywhere -/
def TailR (tv fv : Value) (ds xs : List α) : Prop := tv = tailV fv ds xs ∨ (ds = [] ∧ xs = [] ∧ fv = .slice none 0 0 ∧ ∃ g o, tv = .slice (some ⟨g, o, none⟩) 0 0)
theorem TailR.sl {w : World} {tv fv : Value} {e : TypeId} {ds xs : List α} (h : TailR tv fv ds xs) (ho : OwnB w fv e (ds ++ xs)) : SlR w tv xs := by
  rcases h with rfl | ⟨rfl, rfl, rfl, g, o, rfl⟩
  · exact ho.tail
  · exact ⟨some ⟨g, o, none⟩, 0, rfl, Nat.le_refl _, Nat.zero_le _, by simp, fun ad had h => absurd h (Nat.lt_irrefl 0)⟩
end
section
variable {α : Type} [Enc α] {P : Program} {f : Fr} {w w0 : World} {S : List Ent} {R : Value → World → Prop} {d : Option Tmp} {T : TypeId} {pos : String} {af : Array Edge} {gd : Option (Nat × Bool)}
theorem opW.appendTR {x y : Operand} {t E by_ : Nat} {z v tv : Value} {ds xs ys : List α} [ht : SliceT P t E] [hz : SizeT P E (Enc.sz α)] [hb : BytesT P E by_] [hzz : ZeroT P E z] (hzs : z.cells.size = Enc.sz α) (hS : St w0 S w) (hx : ev f x = tv) (hT : TailR tv v ds xs) (ho : Has (ownE v E (ds ++ xs)) S) (hy : SlR w (ev f y) ys) (hys : 0 < ys.length)
    (hl1 : (xs.length + ys.length) * by_ ≤ 140737488355328) (hl2 : ds.length + xs.length + ys.length ≤ maxLen)
    (h : ∀ (v' tv' : Value) (ds' : List α) (w' : World), ds'.length ≤ ds.length → TailR tv' v' ds' (xs ++ ys) → (∀ S', Turn (ownE v E (ds ++ xs)) (ownE v' E (ds' ++ (xs ++ ys))) S S' → St w0 S' w') → R tv' w') :
    opW P f ⟨d, .call { callee := .builtin .append, args := #[x, y], argTypes := #[t, t] }, T, pos, af, gd⟩ w R := by
  rcases hT with rfl | ⟨rfl, rfl, rfl, g, o, rfl⟩
  · exact opW.appendTail hzs hS hx ho hy hys hl1 hl2 fun v' ds' w' h1 h2 => h v' _ ds' w' h1 (.inl rfl) h2
  · obtain ⟨v', w', hr, h1, h2, h3⟩ := run_append_end (P := P) (ty := T) (g := g) (bo := o) ht hz hb hzz hzs hy hys (by simpa using hl1) (by simpa using hl2)
    have h4 : tailV (α := α) v' [] ([] ++ ys) = v' := by
      have := h1.shape.self (Enc.sz α)
      simpa [tailV] using this
    refine opW.of_run (v := v') (w' := w') ?_ (h v' v' [] w' (Nat.le_refl _) (.inl h4.symm) fun S' hT => St.turn (by rw [ownE_F]; exact h2) (by rw [ownE_A]; exact h1) (by rw [ownE_F, ownE_F]; exact fun k hk => .inr (h3 k hk)) hS hT)
    simp [execOp, resolve, Go.invoke, builtin, hx, hr]
/-- the front is cut off -/
theorem TailR.cut {tv fv : Value} {e : TypeId} {ds xs : List α} {x : α} (h : TailR tv fv ds (x :: xs)) (ho : OwnB w fv e (ds ++ x :: xs)) : ∃ fv' ds', TailR (cutV tv 1 (x :: xs).length (capV tv) (Enc.sz α)) fv' ds' xs ∧ ds'.length ≤ ds.length + 1 ∧
    ((fv' = fv ∧ ds' ++ xs = ds ++ x :: xs) ∨ (fv' = .slice none 0 0 ∧ ds' ++ xs = [])) := by
  rcases h with rfl | ⟨_, h, _⟩
  · rcases ho with ⟨rfl, hnil⟩ | ⟨g, cap, cur, rfl, hg, h1, h2, h3, h4⟩
    · exact absurd (List.append_eq_nil_iff.1 hnil).2 (by simp)
    · simp only [List.length_append, List.length_cons] at h1
      by_cases hc : cap = ds.length + 1
      · obtain rfl : xs = [] := List.length_eq_zero_iff.1 (by omega)
        refine ⟨.slice none 0 0, [], .inr ⟨rfl, rfl, rfl, g, ds.length * Enc.sz α, ?_⟩, Nat.zero_le _, .inr ⟨rfl, rfl⟩⟩
        simp [tailV, cutV, capV, hc]
      · refine ⟨.slice (some ⟨g, 0, none⟩) (ds ++ x :: xs).length cap, ds ++ [x], .inl ?_, by simp, .inl ⟨rfl, by simp⟩⟩
        have e1 : ¬ cap = ds.length := by omega
        have e2 : ¬ cap - ds.length = 1 := by omega
        have e3 : ¬ cap = ds.length + 1 := hc
        simp only [tailV, cutV, capV, List.length_append, List.length_cons, List.length_nil, e1, e2, if_false, Option.map_some, Nat.zero_add]
        rw [if_neg e3]
        congr 1
        all_goals first | omega | simp only [Nat.add_mul, Nat.one_mul, Option.some.injEq, Addr.mk.injEq, true_and, and_true]
  · cases h
end

end Go.Fer
