/- a run, as the laws ask -/
import Derived.Test.YtmibkfdpgmohfaaGreatDoorL5
import Derived.Test.YtmibkfdpgmohfaaGreatDoorL1
set_option linter.all false
namespace Go.Fer
open Go Go.Proofs Go.RowKit

theorem Ld.val {P : Program} {T : TypeId} {w : World} {p v v' : Value} (h : Ld P T w p v) (e : v = v') : Ld P T w p v' := e ▸ h
theorem qs_of {w : World} : ∀ {ins : List Instr}, (∀ e ∈ ins, Instr.okz w e) → ∃ qs : List PI, ins.length = qs.length ∧ ∀ k (h : k < ins.length) (h2 : k < qs.length), InIs w ins[k] qs[k]
 | [], _ => ⟨[], rfl, fun k h => by simp at h⟩
 | x :: ins, h => by
  obtain ⟨qs, h1, h2⟩ := qs_of (ins := ins) (fun e he => h e (List.mem_cons_of_mem _ he))
  obtain ⟨⟨la, a1, _, _⟩, ⟨ld, d1, _, _⟩⟩ := h x List.mem_cons_self
  refine ⟨⟨x.program, la, ld⟩ :: qs, by simp [h1], fun k hk hk2 => ?_⟩
  rcases k with _ | k
  ·exact ⟨rfl, a1, d1⟩
  ·exact h2 k (by simpa using hk) (by simpa using hk2)
def RunIs (R : Ready) (r : List Role) (qs : List PI) (l : List Account) (ins : List Instr) (o : Outcome) (e : Int) (ch : List Holding) : Prop :=
 (e = 1 ∧ badArg r l ins = true ∧ o = oz ∧ ch = []) ∨ (e = 0 ∧ badArg r l ins = false ∧ ∃ s : SlV, o = outF R r qs l s ∧ ch = chgF r (accF R r qs l))
theorem run_any (w0 : World) (R : Ready) (sl : SlV) (l : List Account) (r : List Role) (ins : List Instr) (qs : List PI) (hg : ErrLaid w0) (hl : SlR w0 sl.v l) (hr : SlR w0 R.roles.v r) (hi : SlR w0 R.tx.m.instrs.v ins) (hql : ins.length = qs.length) (hin : ∀ k (h : k < ins.length) (h2 : k < qs.length), InIs w0 ins[k] qs[k]) (hbu : R.budget.units < 18446744073709551616) (hlb : l.length ≤ 100000) (hrb : r.length ≤ 100000) (hlw : ∀ y ∈ l, okW y) :
  Ret Tryz.prog 8 #[.agg (Enc.enc R), sl.v] w0 (fun u w' => ∃ (o : Outcome) (e : Int) (ch : List Holding), u = .tuple #[.agg (Enc.enc o), .int .i64 e] ∧ New w0 w' o.changed.v 74 ch ∧ RunIs R r qs l ins o e ch ∧ Bel w0 w') := by
 refine (run_ok w0 R sl l r ins qs hg hl hr hi hql hin hbu hlb hrb hlw).mono ?_
 rintro u w' (⟨hb, rfl, hw⟩ | ⟨hb, s, rfl, hn, hw⟩)
 ·exact ⟨oz, 1, [], rfl, New.nil _ _ _, .inl ⟨rfl, hb, rfl, rfl⟩, hw⟩
 ·exact ⟨outF R r qs l s, 0, _, rfl, hn, .inr ⟨rfl, hb, s, rfl, rfl⟩, hw⟩
theorem RunIs.bad {R : Ready} {r : List Role} {qs : List PI} {l : List Account} {ins : List Instr} {o : Outcome} {e : Int} {ch : List Holding} (h : RunIs R r qs l ins o e ch) (he : e ≠ 0) : e = 1 ∧ badArg r l ins = true ∧ o = oz ∧ ch = [] := h.resolve_right (fun h => he h.1)
theorem RunIs.good {R : Ready} {r : List Role} {qs : List PI} {l : List Account} {ins : List Instr} {o : Outcome} {e : Int} {ch : List Holding} (h : RunIs R r qs l ins o e ch) (he : e = 0) : badArg r l ins = false ∧ ∃ s : SlV, o = outF R r qs l s ∧ ch = chgF r (accF R r qs l) := (h.resolve_left (fun h => absurd (he.symm.trans h.1) (by decide))).2
theorem badArg_no {r : List Role} {l : List Account} {ins : List Instr} (h : badArg r l ins = false) : l.length = r.length ∧ ∀ c ∈ ins, c.program.toNat < r.length := by
 unfold badArg at h
 obtain ⟨h1, h2⟩ := Bool.or_eq_false_iff.1 h
 refine ⟨by simpa using h1, fun c hc => ?_⟩
 have h3 := List.any_eq_false.1 h2 c hc
 simp only [decide_eq_true_eq] at h3
 omega
theorem stepF_units {r : List Role} {bu : Nat} {bad : Int} {i : Nat} {q : PI} {x : XS} : (stepF r bu bad i q x).2.units ≤ bu ∧ ((stepF r bu bad i q x).1 = 0 → (stepF r bu bad i q x).2.units = x.units + 150) := by
 by_cases h1 : bu < x.units ∨ bu - x.units < 150
 ·rw [stepF_20 h1]; exact ⟨Nat.le_refl _, fun h => absurd (show (20 : Int) = 0 from h) (by decide)⟩
 ·by_cases h2 : (i : Int) = bad
  ·rw [stepF_21 h1 h2]; exact ⟨by show x.units + 150 ≤ bu; omega, fun h => absurd (show (21 : Int) = 0 from h) (by decide)⟩
  ·rw [stepF_act h1 h2]
   have h3 : (actF r q { x with units := x.units + 150 }).2.units = x.units + 150 := by
    unfold actF
    split
    ·rfl
    ·split
     ·split <;> rfl
     ·rfl
   rw [h3]
   exact ⟨by omega, fun _ => rfl⟩
theorem runL_units {r : List Role} {bu : Nat} {bad : Int} : ∀ {qs : List PI} {i : Nat} {x : XS}, x.units ≤ bu → (runL r bu bad qs i x).2.2.units ≤ bu ∧ ((runL r bu bad qs i x).1 = 0 → (runL r bu bad qs i x).2.2.units = x.units + 150 * qs.length) ∧ ((runL r bu bad qs i x).1 ≠ 0 → i ≤ (runL r bu bad qs i x).2.1 ∧ (runL r bu bad qs i x).2.1 < i + qs.length)
 | [], i, x, h => ⟨h, fun _ => rfl, fun h => absurd rfl h⟩
 | q :: qs, i, x, h => by
  have hs := stepF_units (r := r) (bu := bu) (bad := bad) (i := i) (q := q) (x := x)
  unfold runL
  split
  ·next he => exact ⟨hs.1, fun h => absurd h he, fun _ => ⟨Nat.le_refl _, by simp⟩⟩
  ·next he =>
   have he : (stepF r bu bad i q x).1 = 0 := by simpa using he
   obtain ⟨h1, h2, h3⟩ := runL_units (r := r) (bad := bad) (qs := qs) (i := i + 1) hs.1
   refine ⟨h1, fun h => ?_, fun h => ?_⟩
   ·rw [h2 h, hs.2 he, List.length_cons]; omega
   ·have := h3 h
    rw [List.length_cons]; omega
theorem runZ_units (R : Ready) (r : List Role) (qs : List PI) (l : List Account) : (runZ R r qs l).2.2.units ≤ R.budget.units ∧ ((runZ R r qs l).1 = 0 → (runZ R r qs l).2.2.units = 150 * qs.length) ∧ ((runZ R r qs l).1 ≠ 0 → (runZ R r qs l).2.1 < qs.length) := by
 obtain ⟨h1, h2, h3⟩ := runL_units (r := r) (bu := R.budget.units) (bad := R.budget.bad) (qs := qs) (i := 0) (x := ⟨0, 0, l⟩) (Nat.zero_le _)
 exact ⟨h1, fun h => (h2 h).trans (Nat.zero_add _), fun h => by have := h3 h; unfold runZ; omega⟩
theorem chgF_at {r : List Role} {l : List Account} {k : Nat} (h1 : k < r.length) (h2 : k < l.length) (hw : r[k].writes = true) : (chgF r l)[(chgF (r.take k) (l.take k)).length]? = some ⟨r[k].key, l[k]⟩ := by
 have h : chgF r l = chgF (r.take (k + 1)) (l.take (k + 1)) ++ chgF (r.drop (k + 1)) (l.drop (k + 1)) := by
  unfold chgF
  rw [← List.filterMap_append, ← List.zip_append (by simp; omega), List.take_append_drop, List.take_append_drop]
 rw [h, chgF_step h1 h2, if_pos hw, List.append_assoc, List.getElem?_append_right (Nat.le_refl _)]
 simp
theorem chgF_get {r : List Role} {l : List Account} {k : Nat} (h1 : k < r.length) (h2 : k < l.length) (hw : r[k].writes = true) : ∃ h : (chgF (r.take k) (l.take k)).length < (chgF r l).length, (chgF r l)[(chgF (r.take k) (l.take k)).length] = ⟨r[k].key, l[k]⟩ := by
 have h := chgF_at h1 h2 hw
 obtain ⟨h3, h4⟩ := List.getElem?_eq_some_iff.1 h
 exact ⟨h3, h4⟩

end Go.Fer
