/- a run, plainly -/
import Derived.Test.YtmibkfdpgmohfaaGreatDoorK6
import Derived.Test.YtmibkfdpgmohfaaGreatDoorR2
set_option linter.all false
namespace Go.Fer
open Go Go.Proofs Go.RowKit

theorem act_okW {l : List Account} {r : List Role} {ats dt : List UInt8} {x : Ask} {a b : Nat} (h : DoOk l r ats dt x a b) (hl : ∀ y ∈ l, okW y) : ∀ y ∈ actL x l a b (l[a]'h.ha) (l[b]'h.hb), okW y := by
 obtain ⟨htag, hxc, hxs⟩ := askF_ok h.ask
 have hact := h.act
 have hA := hl _ (List.getElem_mem h.ha)
 have hB := hl _ (List.getElem_mem h.hb)
 intro y hy
 rcases htag with ht | ht | ht | ht
 ·rw [actL0 ht] at hy
  rcases List.mem_or_eq_of_mem_set hy with hy | rfl
  ·rcases List.mem_or_eq_of_mem_set hy with hy | rfl
   ·exact hl y hy
   ·exact ⟨by have := hA.1; simp only; omega, hA.2⟩
  ·exact ⟨hxc, hxs⟩
 ·rw [actL1 ht] at hy
  rcases List.mem_or_eq_of_mem_set hy with hy | rfl
  ·exact hl y hy
  ·exact hA
 ·rw [actL2 ht] at hy
  rw [actE2 ht] at hact
  obtain ⟨_, _, _, h4⟩ := mvE_ok hact
  unfold mvL at hy
  split at hy
  ·exact hl y hy
  ·rename_i hab
   rcases List.mem_or_eq_of_mem_set hy with hy | rfl
   ·rcases List.mem_or_eq_of_mem_set hy with hy | rfl
    ·exact hl y hy
    ·exact ⟨by have := hA.1; simp only; omega, hA.2⟩
   ·exact ⟨by have := h4 (decide_eq_false hab); simp only; omega, hB.2⟩
 ·rw [actL8 ht] at hy
  rcases List.mem_or_eq_of_mem_set hy with hy | rfl
  ·exact hl y hy
  ·exact ⟨hA.1, hxs⟩
theorem sumC_take {l : List Account} {k : Nat} (hk : k < l.length) : sumC (l.take (k + 1)) = sumC (l.take k) + l[k].coins := by
 rw [List.take_succ_eq_append_getElem hk]
 unfold sumC
 rw [List.map_append, List.sum_append]
 simp only [List.map_cons, List.map_nil, List.sum_cons, List.sum_nil, Nat.add_zero]
theorem sumC_le : ∀ {l : List Account}, (∀ y ∈ l, okW y) → sumC l ≤ l.length * 18446744073709551615
 | [], _ => by simp [sumC]
 | x :: l, h => by
  have ih := sumC_le (l := l) fun y hy => h y (List.mem_cons_of_mem _ hy)
  have := (h x List.mem_cons_self).1
  simp [sumC] at ih ⊢; omega
theorem hi_step {S c : Nat} (hc : c < 18446744073709551616) : (S + c) / 18446744073709551616 = if ((18446744073709551615 - c : Nat) : Int) < ((S % 18446744073709551616 : Nat) : Int) then S / 18446744073709551616 + 1 else S / 18446744073709551616 := by
 split <;> omega
def chB (out l : List Account) (k : Nat) : Bool := decide (out[k]? ≠ l[k]?)
theorem chB_of {out l : List Account} {k : Nat} (h1 : k < out.length) (h2 : k < l.length) : chB out l k = decide (out[k] ≠ l[k]) := by
 unfold chB; rw [List.getElem?_eq_getElem h1, List.getElem?_eq_getElem h2]; simp
theorem count_next {p : Nat → Bool} (k : Nat) : (List.range (k + 1)).countP p = (List.range k).countP p + if p k = true then 1 else 0 := by
 rw [List.range_succ, List.countP_append, List.countP_singleton]
theorem count_le (p : Nat → Bool) (k : Nat) : (List.range k).countP p ≤ k := by
 have := List.countP_le_length (p := p) (l := List.range k); simpa using this

def runL (r : List Role) (bu : Nat) (bad : Int) : List PI → Nat → XS → Int × Nat × XS
 | [], i, x => (0, i, x)
 | q :: qs, i, x => if (stepF r bu bad i q x).1 ≠ 0 then ((stepF r bu bad i q x).1, i, (stepF r bu bad i q x).2) else runL r bu bad qs (i + 1) (stepF r bu bad i q x).2
/-- all instructions: what is wrong first, where, and what there is then -/
def runZ (R : Ready) (r : List Role) (qs : List PI) (l : List Account) : Int × Nat × XS := runL r R.budget.units R.budget.bad qs 0 ⟨0, 0, l⟩
theorem runL_step {r : List Role} {bu : Nat} {bad : Int} {qs : List PI} {k : Nat} {x : XS} (h : k < qs.length) : runL r bu bad (qs.drop k) k x = if (stepF r bu bad k qs[k] x).1 ≠ 0 then ((stepF r bu bad k qs[k] x).1, k, (stepF r bu bad k qs[k] x).2) else runL r bu bad (qs.drop (k + 1)) (k + 1) (stepF r bu bad k qs[k] x).2 := by
 rw [List.drop_eq_getElem_cons h]; rfl
theorem runL_end {r : List Role} {bu : Nat} {bad : Int} {qs : List PI} {k : Nat} {x : XS} (h : qs.length ≤ k) : runL r bu bad (qs.drop k) k x = (0, k, x) := by
 rw [List.drop_of_length_le h]; rfl
theorem stepF_err {r : List Role} {bu : Nat} {bad : Int} {i : Nat} {q : PI} {x : XS} (h : (stepF r bu bad i q x).1 ≠ 0) : (stepF r bu bad i q x).2.l = x.l := by
 by_cases h1 : bu < x.units ∨ bu - x.units < 150
 ·rw [stepF_20 h1]
 ·by_cases h2 : (i : Int) = bad
  ·rw [stepF_21 h1 h2]
  ·rw [stepF_act h1 h2] at h ⊢
   unfold actF at h ⊢
   split
   ·rfl
   ·split
    ·next h3 h4 =>
     rw [if_neg h3, if_pos h4] at h
     split
     ·rfl
     ·next h5 => rw [if_neg h5] at h; exact absurd rfl h
    ·rfl
theorem doF_keeps {l : List Account} {r : List Role} {ats dt : List UInt8} (h : (doF l r ats dt).1 = 0) (hl : ∀ y ∈ l, okW y) : (doF l r ats dt).2.2.length = l.length ∧ ∀ y ∈ (doF l r ats dt).2.2, okW y := by
 obtain ⟨x, a, b, hd⟩ := doF_ok h
 rw [hd.res]
 exact ⟨by have := (coins_ok hd).1; exact this, act_okW hd hl⟩
theorem stepF_keeps {r : List Role} {bu : Nat} {bad : Int} {i : Nat} {q : PI} {x : XS} (hl : ∀ y ∈ x.l, okW y) : (stepF r bu bad i q x).2.l.length = x.l.length ∧ ∀ y ∈ (stepF r bu bad i q x).2.l, okW y := by
 by_cases h1 : bu < x.units ∨ bu - x.units < 150
 ·rw [stepF_20 h1]; exact ⟨rfl, hl⟩
 ·by_cases h2 : (i : Int) = bad
  ·rw [stepF_21 h1 h2]; exact ⟨rfl, hl⟩
  ·rw [stepF_act h1 h2]
   unfold actF
   split
   ·exact ⟨rfl, hl⟩
   ·split
    ·split
     ·exact ⟨rfl, hl⟩
     ·next h5 => exact doF_keeps (l := x.l) (by simpa using h5) hl
    ·exact ⟨rfl, hl⟩
def badArg (r : List Role) (l : List Account) (ins : List Instr) : Bool := !decide (l.length = r.length) || ins.any fun c => decide ((r.length : Int) ≤ (c.program.toNat : Int))
/-- the accounts at the end -/
def accF (R : Ready) (r : List Role) (qs : List PI) (l : List Account) : List Account := if (runZ R r qs l).1 = 0 then (runZ R r qs l).2.2.l else l
def outF (R : Ready) (r : List Role) (qs : List PI) (l : List Account) (s : SlV) : Outcome :=
 ⟨(runZ R r qs l).1, if (runZ R r qs l).1 = 0 then -1 else ((runZ R r qs l).2.1 : Int), (runZ R r qs l).2.2.units, R.fee, if (runZ R r qs l).1 = 0 then (runZ R r qs l).2.2.space else 0, s⟩
def chg1 (p : Role × Account) : Option Holding := if p.1.writes = true then some ⟨p.1.key, p.2⟩ else none
/-- the accounts that are written -/
def chgF (r : List Role) (l : List Account) : List Holding := (r.zip l).filterMap chg1
theorem chgF_step {r : List Role} {l : List Account} {k : Nat} (h1 : k < r.length) (h2 : k < l.length) : chgF (r.take (k + 1)) (l.take (k + 1)) = chgF (r.take k) (l.take k) ++ (if r[k].writes = true then [⟨r[k].key, l[k]⟩] else []) := by
 unfold chgF
 rw [List.take_succ_eq_append_getElem h1, List.take_succ_eq_append_getElem h2, List.zip_append (by simp; omega), List.filterMap_append]
 congr 1
 simp only [List.zip_cons_cons, List.zip_nil_right, List.filterMap_cons, List.filterMap_nil, chg1]
 split
 ·rename_i h; split at h
  ·cases h
  ·rename_i h3; simp [h3]
 ·rename_i h; split at h
  ·rename_i h3; cases h; simp [h3]
  ·cases h
theorem chgF_len (r : List Role) (l : List Account) : (chgF r l).length ≤ r.length := by
 unfold chgF
 refine Nat.le_trans (List.length_filterMap_le _ _) ?_
 simp; omega
theorem chgF_all {r : List Role} {l : List Account} {k : Nat} (h1 : r.length ≤ k) (h2 : l.length ≤ k) : chgF (r.take k) (l.take k) = chgF r l := by rw [List.take_of_length_le h1, List.take_of_length_le h2]
def oz : Outcome := ⟨0, 0, 0, 0, 0, ⟨none, 0, 0⟩⟩
/-- the accounts of a running transaction: its own, or those that were handed in -/
theorem accAt {w0 w : World} {S : List Ent} {v z : Value} {T : TypeId} {y acc : List Account} (hS : St w0 S w) (he : Has (ownE z T y) S) (h : (v = z ∧ acc = y) ∨ SlR w0 v acc) : SlR w v acc := by
 rcases h with ⟨rfl, rfl⟩ | h
 ·exact hS.sl he
 ·exact h.bel hS.old

end Go.Fer
