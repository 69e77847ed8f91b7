/- Conflict -/
import Derived.Test.YtnkonnoofnhbcaaH
set_option linter.all false
namespace Go.Fer
open Go Go.Proofs Go.RowKit

/-- two lists of roles conflict -/
def confB (a b : List Role) : Bool := a.any fun r => b.any fun s => decide (r.key = s.key) && (r.writes || s.writes)
theorem useV_pos {l : List Role} {x : Key} : useV l x = 0 ↔ ∀ r ∈ l, r.key ≠ x := by
  unfold useV
  split
  · rename_i h
    simp only [List.any_eq_true, Bool.and_eq_true, decide_eq_true_eq] at h
    obtain ⟨r, hr, h1, h2⟩ := h
    exact ⟨fun h => by omega, fun h => absurd h1 (h r hr)⟩
  · split
    · rename_i h
      simp only [List.any_eq_true, decide_eq_true_eq] at h
      obtain ⟨r, hr, h1⟩ := h
      exact ⟨fun h => by omega, fun h => absurd h1 (h r hr)⟩
    · rename_i h
      simp only [List.any_eq_true, decide_eq_true_eq, not_exists, not_and] at h
      exact ⟨fun _ => h, fun _ => rfl⟩
theorem useV_three {l : List Role} {x : Key} : useV l x = 3 ↔ ∃ r ∈ l, r.key = x ∧ r.writes = true := by
  unfold useV
  split
  · rename_i h
    simp only [List.any_eq_true, Bool.and_eq_true, decide_eq_true_eq] at h
    exact ⟨fun _ => h, fun _ => rfl⟩
  · rename_i h
    simp only [List.any_eq_true, Bool.and_eq_true, decide_eq_true_eq] at h
    split
    · exact ⟨fun h => by omega, fun h' => absurd h' h⟩
    · exact ⟨fun h => by omega, fun h' => absurd h' h⟩
/-- a key over which they conflict -/
theorem conf_iff (a b : List Role) : confB a b = true ↔ ∃ x, useV a x ≠ 0 ∧ useV b x ≠ 0 ∧ (useV a x = 3 ∨ useV b x = 3) := by
  simp only [confB, List.any_eq_true, Bool.and_eq_true, Bool.or_eq_true, decide_eq_true_eq]
  constructor
  · rintro ⟨r, hr, s, hs, hk, hw⟩
    refine ⟨r.key, fun h => useV_pos.1 h r hr rfl, fun h => useV_pos.1 h s hs hk.symm, ?_⟩
    rcases hw with hw | hw
    · exact .inl (useV_three.2 ⟨r, hr, rfl, hw⟩)
    · exact .inr (useV_three.2 ⟨s, hs, hk.symm, hw⟩)
  · rintro ⟨x, ha, hb, hw⟩
    have ga : ∃ r ∈ a, r.key = x := by
      apply Classical.byContradiction
      intro h; exact ha (useV_pos.2 fun r hr e => h ⟨r, hr, e⟩)
    have gb : ∃ r ∈ b, r.key = x := by
      apply Classical.byContradiction
      intro h; exact hb (useV_pos.2 fun r hr e => h ⟨r, hr, e⟩)
    obtain ⟨s, hs, hsx⟩ := gb
    obtain ⟨r, hr, hrx⟩ := ga
    rcases hw with hw | hw
    · obtain ⟨r2, hr2, h1, h2⟩ := useV_three.1 hw
      exact ⟨r2, hr2, s, hs, by rw [h1, hsx], .inl h2⟩
    · obtain ⟨s2, hs2, h1, h2⟩ := useV_three.1 hw
      exact ⟨r, hr, s2, hs2, by rw [h1, hrx], .inr h2⟩
theorem conf_comm (a b : List Role) : confB a b = confB b a := by
  rw [Bool.eq_iff_iff, conf_iff, conf_iff]
  constructor <;> rintro ⟨x, h1, h2, h3⟩ <;> exact ⟨x, h2, h1, h3.symm⟩

theorem aget_at {κ ν : Type} [DecidableEq κ] : ∀ {l : List (κ × ν)} {i : Nat} (hi : i < l.length), (l.map Prod.fst).Nodup → aget (l[i]'hi).1 l = some (l[i]'hi).2
  | (x, v) :: r, 0, _, _ => by simp [aget]
  | (x, v) :: r, i + 1, hi, hn => by
    simp only [List.map_cons, List.nodup_cons] at hn
    have hi' : i < r.length := by simpa using hi
    have ih := aget_at hi' hn.2
    have hne : r[i].1 ≠ x := fun e => hn.1 (e ▸ List.mem_map_of_mem (List.getElem_mem hi'))
    simp [aget, hne, ih]
theorem aget_ex {κ ν : Type} [DecidableEq κ] : ∀ {l : List (κ × ν)} {k : κ} {v : ν}, aget k l = some v → ∃ i, ∃ hi : i < l.length, (l[i]'hi).1 = k
  | (x, u) :: r, k, v, h => by
    by_cases hk : k = x
    · exact ⟨0, by simp, by simp [hk]⟩
    · simp [aget, hk] at h
      obtain ⟨i, hi, e⟩ := aget_ex h
      exact ⟨i + 1, by simpa using hi, by simpa using e⟩
/-- two uses of one key conflict -/
def confV (o u : Int) : Bool := decide (0 < o) && decide (0 < bitsI .and .i64 (bitsI .or .i64 o u) 2)
theorem confV_iff {o u : Int} (ho : o = 0 ∨ o = 1 ∨ o = 3) (hu : u = 0 ∨ u = 1 ∨ u = 3) (h : u ≠ 0 ∨ o = 0) : confV o u = true ↔ o ≠ 0 ∧ u ≠ 0 ∧ (o = 3 ∨ u = 3) := by
  rcases ho with rfl | rfl | rfl <;> rcases hu with rfl | rfl | rfl <;> first | decide | simp at h

end Go.Fer
