/- RolesCount -/
import Derived.Test.YtnkonnoofnhbcaaE
set_option linter.all false
namespace Go.Fer
open Go Go.Proofs Go.RowKit

theorem countP_mapIdx {α β : Type} (l : List α) (f : Nat → α → β) (q : β → Bool) (p : Nat → Bool) (h : ∀ i a, q (f i a) = p i) : (l.mapIdx f).countP q = (List.range l.length).countP p := by
  rw [List.mapIdx_eq_zipIdx_map, List.countP_map]
  have e : (q ∘ fun x : α × Nat => f x.2 x.1) = p ∘ Prod.snd := by funext x; exact h x.2 x.1
  have e2 : (List.countP (q ∘ fun x : α × Nat => f x.2 x.1) l.zipIdx) = List.countP p (l.zipIdx.map Prod.snd) := by rw [e, List.countP_map]
  rw [List.zipIdx_map_snd, ← List.range_eq_range'] at e2
  exact e2
theorem count_below (s m : Nat) : (List.range m).countP (fun i : Nat => decide ((i : Int) < (s : Int))) = min s m := by
  induction m with
  | zero => simp
  | succ m ih =>
    rw [List.range_succ, List.countP_append, ih, List.countP_singleton]
    by_cases h : m < s
    · rw [if_pos (by simpa using h)]; omega
    · rw [if_neg (by simpa using h)]; omega
theorem count_writes (s rn ro n m : Nat) (h1 : s + ro ≤ n) (h2 : rn ≤ s) : (List.range m).countP (fun i : Nat => decide ((i : Int) < (if (i : Int) < (s : Int) then (s : Int) else (n : Int)) - (if (i : Int) < (s : Int) then (rn : Int) else (ro : Int)))) = min m (s - rn) + (min m (n - ro) - s) := by
  induction m with
  | zero => simp
  | succ m ih =>
    rw [List.range_succ, List.countP_append, ih, List.countP_singleton]
    by_cases h : m < s
    · have e : (m : Int) < (s : Int) := by omega
      simp only [e, if_true]
      by_cases h3 : m < s - rn
      · rw [if_pos (by simp; omega)]; omega
      · rw [if_neg (by simp; omega)]; omega
    · have e : ¬ (m : Int) < (s : Int) := by omega
      simp only [e, if_false]
      by_cases h3 : m < n - ro
      · rw [if_pos (by simp; omega)]; omega
      · rw [if_neg (by simp; omega)]; omega
theorem count_const {α : Type} (l : List α) (f : α → Role) (q : Role → Bool) (b : Bool) (h : ∀ a, q (f a) = b) : (l.map f).countP q = if b = true then l.length else 0 := by
  rw [List.countP_map]
  have : (q ∘ f) = fun _ => b := by funext a; exact h a
  rw [this]
  cases b <;> simp
theorem all_signs (m : Message) (keys ws rs : List Key) (h : m.header.signers.toNat ≤ keys.length) : (allL m keys ws rs).countP Role.signs = m.header.signers.toNat := by
  unfold allL ownL
  rw [List.countP_append, List.countP_append, countP_mapIdx keys _ _ (fun i : Nat => decide ((i : Int) < (m.header.signers.toNat : Int))) (fun _ _ => rfl), count_below, count_const ws _ _ false (fun _ => rfl), count_const rs _ _ false (fun _ => rfl)]
  simp; omega
theorem all_writes (m : Message) (keys ws rs : List Key) (h1 : m.header.signers.toNat + m.header.readOther.toNat ≤ keys.length) (h2 : m.header.readSigned.toNat ≤ m.header.signers.toNat) :
    (allL m keys ws rs).countP Role.writes = keys.length - m.header.readSigned.toNat - m.header.readOther.toNat + ws.length := by
  unfold allL ownL
  rw [List.countP_append, List.countP_append, countP_mapIdx keys (roleAt m.header keys.length) _ (fun i : Nat => decide ((i : Int) < (if (i : Int) < (m.header.signers.toNat : Int) then (m.header.signers.toNat : Int) else (keys.length : Int)) - (if (i : Int) < (m.header.signers.toNat : Int) then (m.header.readSigned.toNat : Int) else (m.header.readOther.toNat : Int)))) (fun _ _ => rfl), count_writes _ _ _ _ _ h1 h2, count_const ws _ _ true (fun _ => rfl), count_const rs _ _ false (fun _ => rfl)]
  simp; omega
theorem all_ro (m : Message) (keys ws rs : List Key) (h1 : m.header.signers.toNat + m.header.readOther.toNat ≤ keys.length) (h2 : m.header.readSigned.toNat ≤ m.header.signers.toNat) {i : Nat} (hi : i < (allL m keys ws rs).length) :
    (((decide ((i : Int) < (m.header.signers.toNat : Int)) && decide ((m.header.signers.toNat : Int) - (m.header.readSigned.toNat : Int) ≤ (i : Int))) || (decide ((i : Int) < (keys.length : Int)) && decide ((keys.length : Int) - (m.header.readOther.toNat : Int) ≤ (i : Int)))) || decide ((keys.length : Int) + (ws.length : Int) ≤ (i : Int))) = !((allL m keys ws rs)[i]).writes := by
  have hl : (allL m keys ws rs).length = keys.length + ws.length + rs.length := by simp [allL, ownL]; omega
  by_cases c1 : i < keys.length
  · have e : (allL m keys ws rs)[i] = roleAt m.header keys.length i keys[i] := by
      simp only [allL, List.append_assoc]
      rw [List.getElem_append_left (by rw [ownL_len]; exact c1)]
      simp [ownL]
    rw [e]
    simp only [roleAt]
    by_cases c2 : (i : Int) < (m.header.signers.toNat : Int)
    · simp only [c2, if_true]
      rw [Bool.eq_iff_iff]; simp; omega
    · simp only [c2, if_false]
      rw [Bool.eq_iff_iff]; simp; omega
  · by_cases c2 : i < keys.length + ws.length
    · have e : ((allL m keys ws rs)[i]).writes = true := by
        simp only [allL]
        rw [List.getElem_append_left (by simp [ownL]; omega), List.getElem_append_right (by simp [ownL]; omega)]
        simp
      rw [e, Bool.eq_iff_iff]; simp; omega
    · have e : ((allL m keys ws rs)[i]).writes = false := by
        simp only [allL]
        rw [List.getElem_append_right (by simp [ownL]; omega)]
        simp
      rw [e, Bool.eq_iff_iff]; simp; omega
theorem fix_split (l : List Role) : (l.map fixR).countP Role.writes + l.countP (fun r => isKnown r.key && r.writes) = l.countP Role.writes := by
  induction l with
  | nil => rfl
  | cons r l ih =>
    simp only [List.map_cons, List.countP_cons]
    have : (fixR r).writes = (r.writes && !isKnown r.key) := rfl
    rw [this]
    cases r.writes <;> cases isKnown r.key <;> simp only [Bool.and_true, Bool.and_false, Bool.not_true, Bool.not_false, Bool.false_eq_true, if_true, if_false, Bool.true_and, Bool.false_and] <;> omega
theorem wrL_count (l : List Role) : (wrL l).length = l.countP Role.writes := by simp [wrL, List.countP_eq_length_filter]

end Go.Fer
