/- what an instruction does, plainly -/
import Derived.Test.YtmibkfdpgmohfaaDoorF
set_option linter.all false
namespace Go.Fer
open Go Go.Proofs Go.RowKit

theorem lacks_yes {n : Nat} {ats : List UInt8} {c : UInt8} (hc : c ∈ ats) (h : (n : Int) ≤ (c.toNat : Int)) : lacks n ats = true := List.any_eq_true.2 ⟨c, hc, decide_eq_true h⟩
theorem lacks_of {n : Nat} {ats : List UInt8} (h : ∀ i (hi : i < ats.length), ats[i].toNat < n) : lacks n ats = false := by
  refine List.any_eq_false.2 fun c hc => ?_
  obtain ⟨i, hi, rfl⟩ := List.getElem_of_mem hc
  have := h i hi
  simp only [decide_eq_true_eq]; omega
theorem actE0 {x : Ask} {A B : Account} {s : Bool} (h : x.tag = 0) : actE x A B s = mkE x A B := if_pos h
theorem actE1 {x : Ask} {A B : Account} {s : Bool} (h : x.tag = 1) : actE x A B s = asE A := by unfold actE; rw [if_neg (by omega), if_pos h]
theorem actE2 {x : Ask} {A B : Account} {s : Bool} (h : x.tag = 2) : actE x A B s = mvE x A B s := by unfold actE; rw [if_neg (by omega), if_neg (by omega), if_pos h]
theorem actE8 {x : Ask} {A B : Account} {s : Bool} (h : x.tag = 8) : actE x A B s = alE x A := by unfold actE; rw [if_neg (by omega), if_neg (by omega), if_neg (by omega)]
theorem actL0 {x : Ask} {l : List Account} {a b : Nat} {A B : Account} (h : x.tag = 0) : actL x l a b A B = mkL x l a b A := if_pos h
theorem actL1 {x : Ask} {l : List Account} {a b : Nat} {A B : Account} (h : x.tag = 1) : actL x l a b A B = l.set a { A with owner := x.owner } := by unfold actL; rw [if_neg (by omega), if_pos h]
theorem actL2 {x : Ask} {l : List Account} {a b : Nat} {A B : Account} (h : x.tag = 2) : actL x l a b A B = mvL x l a b A B := by unfold actL; rw [if_neg (by omega), if_neg (by omega), if_pos h]
theorem actL8 {x : Ask} {l : List Account} {a b : Nat} {A B : Account} (h : x.tag = 8) : actL x l a b A B = l.set a { A with space := x.space } := by unfold actL; rw [if_neg (by omega), if_neg (by omega), if_neg (by omega)]
theorem roleErr_ok {t : Nat} {r : List Role} {i : Nat} {c : UInt8} (h : c.toNat < r.length) (h0 : roleErr t r i c = 0) : r[c.toNat].writes = true ∧ (¬ (t = 2 ∧ 0 < i) → r[c.toNat].signs = true) := by
  rw [roleErr_of h] at h0
  split at h0
  · cases h0
  · rename_i h1
    split at h0
    · cases h0
    · rename_i h2
      refine ⟨by simpa using h2, fun h3 => ?_⟩
      rw [Bool.not_eq_true, Bool.and_eq_false_iff] at h1
      rcases h1 with h1 | h1
      · simpa using h1
      · exfalso; apply h3
        simp only [Bool.not_eq_false', Bool.and_eq_true, decide_eq_true_eq] at h1
        omega
theorem roleErrs_ok {t : Nat} {r : List Role} : ∀ {l : List UInt8} {i : Nat}, roleErrs t r l i = 0 → ∀ k (hk : k < l.length), roleErr t r (i + k) l[k] = 0
  | c :: l, i, h, k, hk => by
    simp only [roleErrs] at h
    split at h
    · rename_i h1; exact absurd h h1
    · rename_i h1
      cases k with
      | zero => simpa using h1
      | succ k =>
        have := roleErrs_ok h k (by simpa using hk)
        simpa [Nat.add_assoc, Nat.add_comm 1 k] using this
theorem takF_roles {t : Nat} {r : List Role} {ats : List UInt8} (h : takF t r ats = 0) : roleErrs t r (ats.take (need t)) 0 = 0 := by
  obtain ⟨h1, h2⟩ := takF_ok h
  unfold takF at h
  rw [if_neg (by rw [h2, decide_eq_false (by omega)]; decide)] at h
  exact h
theorem askF_space {b : List UInt8} {x : Ask} (h : askF b = some x) : (x.tag = 1 → x.space = 0) ∧ (x.tag = 2 → x.space = 0) := by
  unfold askF at h
  split at h
  · cases h
  · simp only at h
    split at h
    · cases h; exact ⟨fun e => (by cases e), fun e => (by cases e)⟩
    split at h
    · cases h; exact ⟨fun _ => rfl, fun e => (by cases e)⟩
    split at h
    · cases h; exact ⟨fun e => (by cases e), fun _ => rfl⟩
    split at h
    · cases h; exact ⟨fun e => (by cases e), fun e => (by cases e)⟩
    · cases h
/-- what is so where an instruction is carried out -/
structure DoOk (l : List Account) (r : List Role) (ats dt : List UInt8) (x : Ask) (a b : Nat) : Prop where
  len : l.length = r.length
  ask : askF dt = some x
  tak : takF x.tag r ats = 0
  h0 : 0 < ats.length
  ha : a < l.length
  hb : b < l.length
  ea : a = (ats.getD 0 0).toNat
  eb : b = (ats.getD (need x.tag - 1) 0).toNat
  one : ¬ (x.tag = 0 ∨ x.tag = 2) → b = a
  act : actE x (l[a]'ha) (l[b]'hb) (decide (a = b)) = 0
  res : doF l r ats dt = (0, x.space, actL x l a b (l[a]'ha) (l[b]'hb))
  sa : (r[a]'(len ▸ ha)).signs = true
  wa : (r[a]'(len ▸ ha)).writes = true
  sb : x.tag ≠ 2 → (r[b]'(len ▸ hb)).signs = true
  wb : (r[b]'(len ▸ hb)).writes = true
theorem doF_ok {l : List Account} {r : List Role} {ats dt : List UInt8} (h : (doF l r ats dt).1 = 0) : ∃ x a b, DoOk l r ats dt x a b := by
  have hlen : l.length = r.length := by
    apply Classical.byContradiction; intro hn
    rw [doF_len hn] at h; cases h
  cases hx : askF dt with
  | none => rw [doF_none hlen hx] at h; cases h
  | some x =>
    have htk : takF x.tag r ats = 0 := by
      apply Classical.byContradiction; intro hn
      rw [doF_tak hlen hx hn] at h; exact hn h
    obtain ⟨hnl, hlk⟩ := takF_ok htk
    have hn12 := need_12 x.tag
    obtain ⟨j, hj⟩ : ∃ j, need x.tag - 1 = j := ⟨_, rfl⟩
    have hjl : j < ats.length := by omega
    have h0l : 0 < ats.length := by omega
    have ha0 : ats[0].toNat < l.length := by rw [hlen]; exact lacks_no hlk (List.getElem_mem _)
    have haj : ats[j].toNat < l.length := by rw [hlen]; exact lacks_no hlk (List.getElem_mem _)
    have hact := doF_act hlen hx htk h0l hjl hj ha0 haj
    have hrs := takF_roles htk
    have htl : (ats.take (need x.tag)).length = need x.tag := by simp; omega
    have e0 := roleErrs_ok hrs 0 (by omega)
    have ej := roleErrs_ok hrs j (by omega)
    rw [List.getElem_take] at e0 ej
    rw [Nat.zero_add] at e0 ej
    have r0 := roleErr_ok (lacks_no hlk (List.getElem_mem h0l)) e0
    have rj := roleErr_ok (lacks_no hlk (List.getElem_mem hjl)) ej
    have hz : actE x l[ats[0].toNat] l[ats[j].toNat] (decide (ats[0].toNat = ats[j].toNat)) = 0 := by
      apply Classical.byContradiction; intro hn
      rw [hact, if_pos hn] at h; exact hn h
    have hj0 : ¬ (x.tag = 0 ∨ x.tag = 2) → j = 0 := fun hn => by
      have : need x.tag = 1 := if_neg hn
      omega
    refine ⟨x, ats[0].toNat, ats[j].toNat, hlen, hx, htk, h0l, ha0, haj, by rw [getD_of h0l], by rw [hj, getD_of hjl], fun hn => ?_, hz, by rw [hact, if_neg (fun e => e hz)], r0.2 (by omega), r0.1, fun hn => rj.2 (by omega), rj.1⟩
    have := hj0 hn
    subst this
    rfl
theorem doF_err {l : List Account} {r : List Role} {ats dt : List UInt8} (h : (doF l r ats dt).1 ≠ 0) : (doF l r ats dt).2 = (0, []) := by
  unfold doF at h ⊢
  split
  · rfl
  · rename_i h1
    rw [if_neg h1] at h
    cases hx : askF dt with
    | none => rfl
    | some x =>
      rw [hx] at h
      simp only at h ⊢
      split
      · rfl
      · rename_i h2
        rw [if_neg h2] at h
        split
        · rfl
        · rename_i h3
          rw [if_neg h3] at h
          exact absurd rfl h
/-! coins -/
def sumC (l : List Account) : Nat := (l.map Account.coins).sum
theorem sumC_set : ∀ {l : List Account} {i : Nat} (hi : i < l.length) (y : Account), sumC (l.set i y) + l[i].coins = sumC l + y.coins
  | x :: l, 0, _, y => by simp [sumC]; omega
  | x :: l, i + 1, hi, y => by
    have := sumC_set (l := l) (i := i) (by simpa using hi) y
    simp [sumC] at this ⊢; omega
theorem mkE_ok {x : Ask} {A B : Account} (h : mkE x A B = 0) : B = az ∧ A.owner = sysK ∧ A.space = 0 ∧ x.space ≤ 1048576 ∧ x.coins ≤ A.coins := by
  unfold mkE at h
  split at h
  · cases h
  rename_i h1
  split at h
  · cases h
  rename_i h2
  split at h
  · cases h
  rename_i h3
  split at h
  · cases h
  rename_i h4
  have h2' : plainB A = true := by simpa using h2
  unfold plainB at h2'
  simp only [Bool.and_eq_true, decide_eq_true_eq] at h2'
  exact ⟨by simpa using h1, h2'.1, by omega, by omega, by omega⟩
theorem asE_ok {A : Account} (h : asE A = 0) : A.owner = sysK := by
  unfold asE at h
  split at h
  · cases h
  rename_i h1
  simpa using h1
theorem mvE_ok {x : Ask} {A B : Account} {s : Bool} (h : mvE x A B s = 0) : A.owner = sysK ∧ A.space = 0 ∧ x.coins ≤ A.coins ∧ (s = false → B.coins ≤ 18446744073709551615 - x.coins) := by
  unfold mvE at h
  split at h
  · cases h
  rename_i h1
  split at h
  · cases h
  rename_i h2
  have h1' : plainB A = true := by simpa using h1
  unfold plainB at h1'
  simp only [Bool.and_eq_true, decide_eq_true_eq] at h1'
  refine ⟨h1'.1, by omega, by omega, fun hs => ?_⟩
  rw [if_neg (by rw [hs]; decide)] at h
  split at h
  · cases h
  · omega
theorem alE_ok {x : Ask} {A : Account} (h : alE x A = 0) : A.owner = sysK ∧ A.space = 0 ∧ x.space ≤ 1048576 := by
  unfold alE at h
  split at h
  · cases h
  rename_i h1
  split at h
  · cases h
  rename_i h2
  have h1' : plainB A = true := by simpa using h1
  unfold plainB at h1'
  simp only [Bool.and_eq_true, decide_eq_true_eq] at h1'
  exact ⟨h1'.1, by omega, by omega⟩
/-- what may become of an account -/
def ChgOk (n : Nat) (ro : Role) (was now : Account) : Prop :=
  now ≠ was → ro.writes = true ∧ (was.owner ≠ sysK → was.coins ≤ now.coins ∧ now.owner = was.owner) ∧ ((now.coins < was.coins ∨ now.owner ≠ was.owner ∨ now.space ≠ was.space) → ro.signs = true) ∧ (now.space ≠ was.space → was.space = 0 ∧ now.space = n)
structure CoinsOk (l : List Account) (r : List Role) (n : Nat) (out : List Account) (a b : Nat) : Prop where
  len : out.length = l.length
  sum : sumC out = sumC l
  n_le : n ≤ 1048576
  rest : ∀ k (h1 : k < out.length) (h2 : k < l.length), out[k] ≠ l[k] → k = a ∨ k = b
  chg : ∀ k (h1 : k < out.length) (h2 : k < l.length) (h3 : k < r.length), ChgOk n r[k] l[k] out[k]
theorem set2_get {l : List Account} {a b : Nat} {X Y : Account} {k : Nat} (h1 : k < ((l.set a X).set b Y).length) (h2 : k < l.length) : ((l.set a X).set b Y)[k] = if k = b then Y else if k = a then X else l[k] := by
  rw [List.getElem_set]
  by_cases hb : k = b
  · rw [if_pos hb.symm, if_pos hb]
  · rw [if_neg (fun e => hb e.symm), if_neg hb, List.getElem_set]
    by_cases ha : k = a
    · rw [if_pos ha.symm, if_pos ha]
    · rw [if_neg (fun e => ha e.symm), if_neg ha]
theorem set1_get {l : List Account} {a : Nat} {X : Account} {k : Nat} (h1 : k < (l.set a X).length) (h2 : k < l.length) : (l.set a X)[k] = if k = a then X else l[k] := by
  rw [List.getElem_set]
  by_cases ha : k = a
  · rw [if_pos ha.symm, if_pos ha]
  · rw [if_neg (fun e => ha e.symm), if_neg ha]
theorem coins_ok {l : List Account} {r : List Role} {ats dt : List UInt8} {x : Ask} {a b : Nat} (h : DoOk l r ats dt x a b) : CoinsOk l r x.space (actL x l a b (l[a]'h.ha) (l[b]'h.hb)) a b := by
  have htag := (askF_ok h.ask).1
  have hsp := askF_space h.ask
  have hact := h.act
  have hA := h.ha
  have hB := h.hb
  rcases htag with ht | ht | ht | ht
  · rw [actE0 ht] at hact
    rw [actL0 ht]
    obtain ⟨h1, h2, h3, h4, h5⟩ := mkE_ok hact
    have hsb := h.sb (by omega)
    have hc : l[b].coins = 0 := by rw [h1]; rfl
    have hs : l[b].space = 0 := by rw [h1]; rfl
    have ho : l[b].owner = sysK := by rw [h1]; rfl
    unfold mkL
    refine ⟨by simp, ?_, h4, fun k k1 k2 hne => ?_, fun k k1 k2 k3 hne => ?_⟩
    · have s1 := sumC_set hA { l[a] with coins := l[a].coins - x.coins }
      have s2 := sumC_set (l := l.set a { l[a] with coins := l[a].coins - x.coins }) (i := b) (by simpa using hB) ⟨x.coins, x.owner, x.space⟩
      rw [set1_get (by simpa using hB) hB] at s2
      by_cases hab : b = a
      · subst hab
        rw [if_pos rfl] at s2
        simp only at s1 s2
        omega
      · rw [if_neg hab] at s2
        simp only at s1 s2
        omega
    · rw [set2_get k1 k2] at hne
      by_cases e1 : k = b
      · exact .inr e1
      by_cases e2 : k = a
      · exact .inl e2
      rw [if_neg e1, if_neg e2] at hne
      exact absurd rfl hne
    · rw [set2_get k1 k2] at hne ⊢
      by_cases e1 : k = b
      · subst e1
        rw [if_pos rfl] at hne ⊢
        exact ⟨h.wb, fun hn => absurd ho hn, fun _ => hsb, fun _ => ⟨hs, rfl⟩⟩
      by_cases e2 : k = a
      · subst e2
        rw [if_neg e1, if_pos rfl] at hne ⊢
        exact ⟨h.wa, fun hn => absurd h2 hn, fun _ => h.sa, fun hn => absurd rfl hn⟩
      rw [if_neg e1, if_neg e2] at hne
      exact absurd rfl hne
  · rw [actE1 ht] at hact
    rw [actL1 ht]
    have h1 := asE_ok hact
    refine ⟨by simp, ?_, by rw [hsp.1 ht]; decide, fun k k1 k2 hne => ?_, fun k k1 k2 k3 hne => ?_⟩
    · have s1 := sumC_set hA { l[a] with owner := x.owner }
      simp only at s1
      omega
    · rw [set1_get k1 k2] at hne
      by_cases e2 : k = a
      · exact .inl e2
      rw [if_neg e2] at hne
      exact absurd rfl hne
    · rw [set1_get k1 k2] at hne ⊢
      by_cases e2 : k = a
      · subst e2
        rw [if_pos rfl] at hne ⊢
        exact ⟨h.wa, fun hn => absurd h1 hn, fun _ => h.sa, fun hn => absurd rfl hn⟩
      rw [if_neg e2] at hne
      exact absurd rfl hne
  · rw [actE2 ht] at hact
    rw [actL2 ht]
    obtain ⟨h1, h2, h3, h4⟩ := mvE_ok hact
    unfold mvL
    by_cases hab : a = b
    · rw [if_pos hab]
      exact ⟨rfl, rfl, by rw [hsp.2 ht]; decide, fun k _ _ hne => absurd rfl hne, fun k _ _ _ hne => absurd rfl hne⟩
    · rw [if_neg hab]
      refine ⟨by simp, ?_, by rw [hsp.2 ht]; decide, fun k k1 k2 hne => ?_, fun k k1 k2 k3 hne => ?_⟩
      · have s1 := sumC_set hA { l[a] with coins := l[a].coins - x.coins }
        have s2 := sumC_set (l := l.set a { l[a] with coins := l[a].coins - x.coins }) (i := b) (by simpa using hB) { l[b] with coins := l[b].coins + x.coins }
        rw [set1_get (by simpa using hB) hB, if_neg (fun e => hab e.symm)] at s2
        simp only at s1 s2
        omega
      · rw [set2_get k1 k2] at hne
        by_cases e1 : k = b
        · exact .inr e1
        by_cases e2 : k = a
        · exact .inl e2
        rw [if_neg e1, if_neg e2] at hne
        exact absurd rfl hne
      · rw [set2_get k1 k2] at hne ⊢
        by_cases e1 : k = b
        · subst e1
          rw [if_pos rfl] at hne ⊢
          refine ⟨h.wb, fun hn => ⟨by simp only; omega, rfl⟩, fun hn => ?_, fun hn => absurd rfl hn⟩
          simp only [ne_eq, not_true_eq_false, or_false] at hn
          omega
        by_cases e2 : k = a
        · subst e2
          rw [if_neg e1, if_pos rfl] at hne ⊢
          exact ⟨h.wa, fun hn => absurd h1 hn, fun _ => h.sa, fun hn => absurd rfl hn⟩
        rw [if_neg e1, if_neg e2] at hne
        exact absurd rfl hne
  · rw [actE8 ht] at hact
    rw [actL8 ht]
    obtain ⟨h1, h2, h3⟩ := alE_ok hact
    refine ⟨by simp, ?_, h3, fun k k1 k2 hne => ?_, fun k k1 k2 k3 hne => ?_⟩
    · have s1 := sumC_set hA { l[a] with space := x.space }
      simp only at s1
      omega
    · rw [set1_get k1 k2] at hne
      by_cases e2 : k = a
      · exact .inl e2
      rw [if_neg e2] at hne
      exact absurd rfl hne
    · rw [set1_get k1 k2] at hne ⊢
      by_cases e2 : k = a
      · subst e2
        rw [if_pos rfl] at hne ⊢
        exact ⟨h.wa, fun hn => absurd h1 hn, fun _ => h.sa, fun _ => ⟨h2, rfl⟩⟩
      rw [if_neg e2] at hne
      exact absurd rfl hne
theorem okW_of {w : World} {a : Account} (h : a.ok w) : okW a := by
  unfold Account.ok at h
  obtain ⟨h1, h2⟩ := h
  exact ⟨by omega, by omega⟩
theorem count_two {p : Nat → Bool} {a b : Nat} (h : ∀ k, p k = true → k = a ∨ k = b) : ∀ n, (List.range n).countP p ≤ (if a < n then 1 else 0) + (if b < n then 1 else 0)
  | 0 => by simp
  | n + 1 => by
    have ih := count_two h n
    rw [List.range_succ, List.countP_append, List.countP_singleton]
    have m1 : (if a < n then 1 else 0) ≤ (if a < n + 1 then 1 else (0 : Nat)) := by split <;> split <;> omega
    have m2 : (if b < n then 1 else 0) ≤ (if b < n + 1 then 1 else (0 : Nat)) := by split <;> split <;> omega
    by_cases hp : p n = true
    · rw [if_pos hp]
      rcases h n hp with rfl | rfl
      · rw [if_neg (Nat.lt_irrefl _)] at ih
        rw [if_pos (Nat.lt_succ_self _)]
        omega
      · rw [if_neg (Nat.lt_irrefl _)] at ih
        rw [if_pos (Nat.lt_succ_self _)]
        omega
    · rw [if_neg hp]; omega

end Go.Fer
