/- lanes -/
import Derived.Test.YtppgmnljciakhaaR
set_option linter.all false
namespace Go.Fer
open Go Go.Proofs Go.RowKit

abbrev Bt := SlV × List I64
/-- a lane: its places, where the first one is, and the batches in order -/
structure LnD where
  l : SlV
  f : Nat
  cs : List SlV
  q : List Bt
def LnD.r (L : LnD) : Ring := ⟨L.l, (L.f : Int), (L.q.length : Int)⟩
def LnOk (L : LnD) : Prop := L.q.length ≤ L.cs.length ∧ L.cs.length ≤ 4001 ∧ (L.f < L.cs.length ∨ (L.f = 0 ∧ L.cs = [])) ∧ ∀ i (h : i < L.q.length), L.cs[(L.f + i) % L.cs.length]? = some (L.q[i]'h).1
def bE (q : List Bt) : List Ent := q.map fun b => ownE b.1.v 3 b.2
def lnE (L : LnD) : List Ent := ownE L.l.v 32 L.cs :: bE L.q
theorem rot_get {α : Type} (cs : List α) (f i : Nat) (hf : f ≤ cs.length) (hi : i < cs.length) : (cs.drop f ++ cs.take f)[i]? = cs[(f + i) % cs.length]? := by
  by_cases h : f + i < cs.length
  · rw [List.getElem?_append_left (by rw [List.length_drop]; omega), List.getElem?_drop, Nat.mod_eq_of_lt h]
  · rw [List.getElem?_append_right (by rw [List.length_drop]; omega), List.length_drop, List.getElem?_take_of_lt (by omega)]
    congr 1
    rw [Nat.mod_eq_sub_mod (by omega), Nat.mod_eq_of_lt (by omega)]; omega
/-- the places, made more -/
def growL (cs : List SlV) (f : Nat) : List SlV := cs.drop f ++ cs.take f ++ List.replicate (cs.length + 1) ⟨none, 0, 0⟩
theorem growL_len (cs : List SlV) (f : Nat) : (growL cs f).length = 2 * cs.length + 1 := by simp [growL]; omega
theorem growL_ok {L : LnD} (h : LnOk L) (hfull : L.q.length = L.cs.length) (hc : L.cs.length ≤ 2000) (s : SlV) : LnOk ⟨s, 0, growL L.cs L.f, L.q⟩ := by
  obtain ⟨h1, h2, h3, h4⟩ := h
  refine ⟨by rw [growL_len]; simp only; omega, by rw [growL_len]; omega, .inl (by show 0 < (growL L.cs L.f).length; rw [growL_len]; omega), fun i hi => ?_⟩
  have hi : i < L.q.length := hi
  have hf : L.f ≤ L.cs.length := by rcases h3 with h | ⟨h, _⟩ <;> omega
  rw [growL_len, Nat.zero_add, Nat.mod_eq_of_lt (by omega)]
  unfold growL
  rw [List.getElem?_append_left (by simp; omega), rot_get _ _ _ hf (by omega)]
  exact h4 i hi
theorem push_ok {L : LnD} (h : LnOk L) (hroom : L.q.length < L.cs.length) (b : Bt) : LnOk ⟨L.l, L.f, L.cs.set ((L.f + L.q.length) % L.cs.length) b.1, L.q ++ [b]⟩ := by
  obtain ⟨h1, h2, h3, h4⟩ := h
  have hf : L.f < L.cs.length := by rcases h3 with h | ⟨_, h⟩; exact h; rw [h] at hroom; simp at hroom
  refine ⟨by simp; omega, by simpa using h2, .inl (by simpa using hf), fun i hi => ?_⟩
  simp only [List.length_set]
  simp only [List.length_append, List.length_cons, List.length_nil] at hi
  rw [List.getElem?_set]
  by_cases he : i = L.q.length
  · subst he
    rw [if_pos rfl, if_pos (Nat.mod_lt _ (by omega))]
    simp
  · have hil : i < L.q.length := by omega
    have hne : ¬ (L.f + L.q.length) % L.cs.length = (L.f + i) % L.cs.length := by
      intro hm
      have e1 : (L.f + L.q.length) % L.cs.length = if L.f + L.q.length < L.cs.length then L.f + L.q.length else L.f + L.q.length - L.cs.length := by
        split
        · exact Nat.mod_eq_of_lt (by assumption)
        · rw [Nat.mod_eq_sub_mod (by omega), Nat.mod_eq_of_lt (by omega)]
      have e2 : (L.f + i) % L.cs.length = if L.f + i < L.cs.length then L.f + i else L.f + i - L.cs.length := by
        split
        · exact Nat.mod_eq_of_lt (by assumption)
        · rw [Nat.mod_eq_sub_mod (by omega), Nat.mod_eq_of_lt (by omega)]
      rw [e1, e2] at hm
      split at hm <;> split at hm <;> omega
    rw [if_neg hne, h4 i hil]
    simp [List.getElem_append_left hil]
theorem pop_ok {L : LnD} (h : LnOk L) {b : Bt} {q : List Bt} (hq : L.q = b :: q) : LnOk ⟨L.l, (L.f + 1) % L.cs.length, L.cs.set L.f ⟨none, 0, 0⟩, q⟩ ∧ L.f < L.cs.length ∧ L.cs[L.f]? = some b.1 := by
  obtain ⟨h1, h2, h3, h4⟩ := h
  rw [hq] at h1
  simp only [List.length_cons] at h1
  have hf : L.f < L.cs.length := by rcases h3 with h | ⟨_, h⟩; exact h; rw [h] at h1; simp at h1
  refine ⟨⟨by simp; omega, by simpa using h2, .inl (by simpa using Nat.mod_lt _ (by omega)), fun i hi => ?_⟩, hf, ?_⟩
  · have hi : i < q.length := hi
    simp only [List.length_set]
    have hil : i + 1 < L.q.length := by rw [hq]; simp; omega
    have e0 : ((L.f + 1) % L.cs.length + i) % L.cs.length = (L.f + (i + 1)) % L.cs.length := by
      rw [Nat.mod_add_mod]; congr 1; omega
    have hne : ¬ L.f = (L.f + (i + 1)) % L.cs.length := by
      intro hm
      by_cases hlt : L.f + (i + 1) < L.cs.length
      · rw [Nat.mod_eq_of_lt hlt] at hm; omega
      · rw [Nat.mod_eq_sub_mod (by omega), Nat.mod_eq_of_lt (by omega)] at hm; omega
    rw [e0, List.getElem?_set, if_neg hne, h4 (i + 1) hil]
    simp [hq]
  · have := h4 0 (by rw [hq]; simp)
    rw [Nat.add_zero, Nat.mod_eq_of_lt hf] at this
    simpa [hq] using this

end Go.Fer
