/- one instruction more, plainly -/
import Derived.Test.YtmibkfdpgmohfaaDoorL6
set_option linter.all false
namespace Go.Fer
open Go Go.Proofs Go.RowKit

theorem getD_app {α : Type} {l : List α} {y d : α} {i : Nat} (h : i < l.length) : (l ++ [y]).getD i d = l.getD i d := by
  simp [List.getD_eq_getElem?_getD, List.getElem?_append_left h]
theorem roleErr_more {t : Nat} {r : List Role} {ρ : Role} {i : Nat} {c : UInt8} (h : c.toNat < r.length) : roleErr t (r ++ [ρ]) i c = roleErr t r i c := by
  unfold roleErr; rw [getD_app h]
theorem roleErrs_more {t : Nat} {r : List Role} {ρ : Role} : ∀ {l : List UInt8} {i : Nat}, (∀ c ∈ l, c.toNat < r.length) → roleErrs t (r ++ [ρ]) l i = roleErrs t r l i
  | [], _, _ => rfl
  | c :: l, i, h => by
    unfold roleErrs
    rw [roleErr_more (h c List.mem_cons_self), roleErrs_more (fun c hc => h c (List.mem_cons_of_mem _ hc))]
theorem takF_more {t : Nat} {r : List Role} {ρ : Role} {ats : List UInt8} (h : takF t r ats ≠ 8) : takF t (r ++ [ρ]) ats = takF t r ats ∧ lacks r.length ats = false ∧ need t ≤ ats.length := by
  have hc : (decide ((ats.length : Int) < (need t : Int)) || lacks r.length ats) = false := by
    cases hb : (decide ((ats.length : Int) < (need t : Int)) || lacks r.length ats) with
    | false => rfl
    | true => exact absurd (if_pos hb) h
  obtain ⟨h1, h2⟩ := Bool.or_eq_false_iff.1 hc
  have h3 : lacks (r ++ [ρ]).length ats = false := by
    refine List.any_eq_false.2 fun c hc => ?_
    have := lacks_no h2 hc
    simp only [decide_eq_true_eq, List.length_append, List.length_singleton]
    omega
  refine ⟨?_, h2, by simpa using h1⟩
  unfold takF
  rw [h1, h2, h3]
  simp only [Bool.or_self, Bool.false_eq_true, if_false]
  exact roleErrs_more fun c hc => lacks_no h2 (List.mem_of_mem_take hc)
theorem set_app {l : List Account} {y A : Account} {a : Nat} (h : a < l.length) : (l ++ [y]).set a A = l.set a A ++ [y] := List.set_append_left _ _ h
theorem actL_more {x : Ask} {l : List Account} {y A B : Account} {a b : Nat} (ha : a < l.length) (hb : b < l.length) : actL x (l ++ [y]) a b A B = actL x l a b A B ++ [y] := by
  unfold actL mkL mvL
  split
  · rw [set_app ha, set_app (by rw [List.length_set]; exact hb)]
  · split
    · rw [set_app ha]
    · split
      · split
        · rfl
        · rw [set_app ha, set_app (by rw [List.length_set]; exact hb)]
      · rw [set_app ha]
theorem doF_more {l : List Account} {r : List Role} {y : Account} {ρ : Role} {ats dt : List UInt8} (h : l.length = r.length) (h8 : (doF l r ats dt).1 ≠ 8) :
    (doF (l ++ [y]) (r ++ [ρ]) ats dt).1 = (doF l r ats dt).1 ∧ (doF (l ++ [y]) (r ++ [ρ]) ats dt).2.1 = (doF l r ats dt).2.1 ∧ ((doF l r ats dt).1 = 0 → (doF (l ++ [y]) (r ++ [ρ]) ats dt).2.2 = (doF l r ats dt).2.2 ++ [y]) := by
  have h' : (l ++ [y]).length = (r ++ [ρ]).length := by simp [h]
  cases hx : askF dt with
  | none => rw [doF_none h hx, doF_none h' hx]; exact ⟨rfl, rfl, fun h => absurd (show (13 : Int) = 0 from h) (by decide)⟩
  | some x =>
    by_cases ht : takF x.tag r ats = 0
    · obtain ⟨hm, hk, hn⟩ := takF_more (ρ := ρ) (show takF x.tag r ats ≠ 8 by rw [ht]; decide)
      have hn2 := need_12 x.tag
      have h0 : 0 < ats.length := by omega
      have hj : need x.tag - 1 < ats.length := by omega
      have ha : ats[0].toNat < l.length := by rw [h]; exact lacks_no hk (List.getElem_mem h0)
      have hb : ats[need x.tag - 1].toNat < l.length := by rw [h]; exact lacks_no hk (List.getElem_mem hj)
      have ha' : ats[0].toNat < (l ++ [y]).length := by simp; omega
      have hb' : ats[need x.tag - 1].toNat < (l ++ [y]).length := by simp; omega
      rw [doF_act h hx ht h0 hj rfl ha hb, doF_act h' hx (hm.trans ht) h0 hj rfl ha' hb', List.getElem_append_left ha, List.getElem_append_left hb, actL_more ha hb]
      by_cases hz : actE x l[ats[0].toNat] l[ats[need x.tag - 1].toNat] (decide (ats[0].toNat = ats[need x.tag - 1].toNat)) = 0
      · rw [if_neg (fun e => e hz), if_neg (fun e => e hz)]; exact ⟨rfl, rfl, fun _ => rfl⟩
      · rw [if_pos hz, if_pos hz]; exact ⟨rfl, rfl, fun h => absurd h hz⟩
    · rw [doF_tak h hx ht] at h8 ⊢
      obtain ⟨hm, _, _⟩ := takF_more (ρ := ρ) (show takF x.tag r ats ≠ 8 from h8)
      rw [doF_tak h' hx (by rw [hm]; exact ht), hm]
      exact ⟨rfl, rfl, fun h => absurd h ht⟩
def XS.plus (x : XS) (y : Account) : XS := ⟨x.units, x.space, x.l ++ [y]⟩
theorem keyAt_more {r : List Role} {ρ : Role} {p : UInt8} (h : p.toNat < r.length) : keyAt (r ++ [ρ]) p = keyAt r p := by unfold keyAt; rw [getD_app h]
theorem actF_more {r : List Role} {ρ : Role} {y : Account} {q : PI} {x : XS} (hq : q.p.toNat < r.length) (hl : x.l.length = r.length) (h8 : (actF r q x).1 ≠ 8) : actF (r ++ [ρ]) q (x.plus y) = ((actF r q x).1, (actF r q x).2.plus y) := by
  by_cases h1 : keyAt r q.p = budK
  · rw [actF_b h1, actF_b ((keyAt_more hq).trans h1)]
  · by_cases h2 : keyAt r q.p = sysK
    · rw [actF_s h2] at h8 ⊢
      rw [actF_s ((keyAt_more hq).trans h2)]
      have hd8 : (doF x.l r q.ats q.dt).1 ≠ 8 := by
        by_cases hz : (doF x.l r q.ats q.dt).1 = 0
        · rw [hz]; decide
        · rw [if_pos hz] at h8; exact h8
      obtain ⟨d1, d2, d3⟩ := doF_more (y := y) (ρ := ρ) (ats := q.ats) (dt := q.dt) hl hd8
      show (if (doF (x.l ++ [y]) (r ++ [ρ]) q.ats q.dt).1 ≠ 0 then _ else _) = _
      rw [d1]
      by_cases hz : (doF x.l r q.ats q.dt).1 = 0
      · rw [if_neg (fun e => e hz), if_neg (fun e => e hz)]
        show (0, (⟨x.units, (x.space + (doF (x.l ++ [y]) (r ++ [ρ]) q.ats q.dt).2.1) % 18446744073709551616, (doF (x.l ++ [y]) (r ++ [ρ]) q.ats q.dt).2.2⟩ : XS)) = _
        rw [d2, d3 hz]; rfl
      · rw [if_pos hz, if_pos hz]
        show ((doF (x.l ++ [y]) (r ++ [ρ]) q.ats q.dt).1, x.plus y) = _
        rw [d1]
    · rw [actF_n h1 h2, actF_n (by rw [keyAt_more hq]; exact h1) (by rw [keyAt_more hq]; exact h2)]
theorem stepF_more {r : List Role} {ρ : Role} {y : Account} {bu : Nat} {bad : Int} {i : Nat} {q : PI} {x : XS} (hq : q.p.toNat < r.length) (hl : x.l.length = r.length) (h8 : (stepF r bu bad i q x).1 ≠ 8) : stepF (r ++ [ρ]) bu bad i q (x.plus y) = ((stepF r bu bad i q x).1, (stepF r bu bad i q x).2.plus y) := by
  by_cases h1 : bu < x.units ∨ bu - x.units < 150
  · rw [stepF_20 h1, stepF_20 (x := x.plus y) h1]; rfl
  · by_cases h2 : (i : Int) = bad
    · rw [stepF_21 h1 h2, stepF_21 (x := x.plus y) h1 h2]; rfl
    · rw [stepF_act h1 h2] at h8 ⊢
      rw [stepF_act (x := x.plus y) h1 h2]
      exact actF_more (x := { x with units := x.units + 150 }) hq hl h8
theorem runL_go {r : List Role} {bu : Nat} {bad : Int} {q : PI} {qs : List PI} {i : Nat} {x : XS} (hz : (stepF r bu bad i q x).1 = 0) : runL r bu bad (q :: qs) i x = runL r bu bad qs (i + 1) (stepF r bu bad i q x).2 := if_neg (fun e => e hz)
theorem runL_hit {r : List Role} {bu : Nat} {bad : Int} {q : PI} {qs : List PI} {i : Nat} {x : XS} (hz : (stepF r bu bad i q x).1 ≠ 0) : runL r bu bad (q :: qs) i x = ((stepF r bu bad i q x).1, i, (stepF r bu bad i q x).2) := if_pos hz
theorem runL_more {r : List Role} {ρ : Role} {y : Account} {bu : Nat} {bad : Int} : ∀ {qs : List PI} {i : Nat} {x : XS}, (∀ q ∈ qs, q.p.toNat < r.length) → x.l.length = r.length → (∀ a ∈ x.l, okW a) → (runL r bu bad qs i x).1 ≠ 8 →
    runL (r ++ [ρ]) bu bad qs i (x.plus y) = ((runL r bu bad qs i x).1, (runL r bu bad qs i x).2.1, (runL r bu bad qs i x).2.2.plus y)
  | [], _, _, _, _, _, _ => rfl
  | q :: qs, i, x, hq, hl, hw, h8 => by
    have hk := stepF_keeps (r := r) (bu := bu) (bad := bad) (i := i) (q := q) hw
    by_cases hz : (stepF r bu bad i q x).1 = 0
    · rw [runL_go hz] at h8 ⊢
      have hs := stepF_more (ρ := ρ) (y := y) (bu := bu) (bad := bad) (i := i) (hq q List.mem_cons_self) hl (by rw [hz]; decide)
      rw [runL_go (by rw [hs]; exact hz), hs]
      exact runL_more (fun q h => hq q (List.mem_cons_of_mem _ h)) (hk.1.trans hl) hk.2 h8
    · rw [runL_hit hz] at h8 ⊢
      have hs := stepF_more (ρ := ρ) (y := y) (bu := bu) (bad := bad) (i := i) (hq q List.mem_cons_self) hl h8
      rw [runL_hit (by rw [hs]; exact hz), hs]
theorem runL_app {r : List Role} {bu : Nat} {bad : Int} {qs' : List PI} : ∀ {qs : List PI} {i : Nat} {x : XS}, runL r bu bad (qs ++ qs') i x = if (runL r bu bad qs i x).1 ≠ 0 then runL r bu bad qs i x else runL r bu bad qs' (i + qs.length) (runL r bu bad qs i x).2.2
  | [], i, x => by simp [runL]
  | q :: qs, i, x => by
    rw [List.cons_append]
    by_cases hz : (stepF r bu bad i q x).1 = 0
    · rw [runL_go hz, runL_app, runL_go hz, List.length_cons, show i + (qs.length + 1) = i + 1 + qs.length by omega]
    · rw [runL_hit hz, runL_hit hz, if_pos hz]
theorem runL_len {r : List Role} {bu : Nat} {bad : Int} : ∀ {qs : List PI} {i : Nat} {x : XS}, (∀ a ∈ x.l, okW a) → (runL r bu bad qs i x).2.2.l.length = x.l.length ∧ ∀ a ∈ (runL r bu bad qs i x).2.2.l, okW a
  | [], _, _, h => ⟨rfl, h⟩
  | q :: qs, i, x, h => by
    have hk := stepF_keeps (r := r) (bu := bu) (bad := bad) (i := i) (q := q) h
    unfold runL
    split
    · exact hk
    · obtain ⟨h1, h2⟩ := runL_len (r := r) (bu := bu) (bad := bad) (qs := qs) (i := i + 1) hk.2
      exact ⟨h1.trans hk.1, h2⟩
def rhoB : Role := ⟨budK, false, false⟩
def qB (n : UInt8) (d : List UInt8) : PI := ⟨n, [], d⟩
theorem chgF_more {r : List Role} {l : List Account} {y : Account} (h : l.length = r.length) : chgF (r ++ [rhoB]) (l ++ [y]) = chgF r l := by
  unfold chgF
  rw [List.zip_append h.symm, List.filterMap_append]
  exact List.append_nil _
theorem ahead_all {r : List Role} {bu : Nat} {bad : Int} {qs : List PI} {l : List Account} {d : List UInt8} {n : UInt8} {z : Int × Nat × XS} (hz : runL r bu bad qs 0 ⟨0, 0, l⟩ = z) (hq : ∀ q ∈ qs, q.p.toNat < r.length) (hl : l.length = r.length) (hw : ∀ a ∈ l, okW a) (h8 : z.1 ≠ 8) (hn : n.toNat = r.length) (hb : bad < (qs.length : Int)) :
    (z.1 ≠ 0 → runL (r ++ [rhoB]) bu bad (qs ++ [qB n d]) 0 ⟨0, 0, l ++ [az]⟩ = (z.1, z.2.1, z.2.2.plus az)) ∧
    (z.1 = 0 → (bu < z.2.2.units ∨ bu - z.2.2.units < 150) → (runL (r ++ [rhoB]) bu bad (qs ++ [qB n d]) 0 ⟨0, 0, l ++ [az]⟩).1 = 20 ∧ (runL (r ++ [rhoB]) bu bad (qs ++ [qB n d]) 0 ⟨0, 0, l ++ [az]⟩).2.2.units = bu) ∧
    (z.1 = 0 → ¬ (bu < z.2.2.units ∨ bu - z.2.2.units < 150) → (runL (r ++ [rhoB]) bu bad (qs ++ [qB n d]) 0 ⟨0, 0, l ++ [az]⟩).1 = 0 ∧ (runL (r ++ [rhoB]) bu bad (qs ++ [qB n d]) 0 ⟨0, 0, l ++ [az]⟩).2.2 = ⟨z.2.2.units + 150, z.2.2.space, z.2.2.l ++ [az]⟩) := by
  subst hz
  have hm := runL_more (r := r) (ρ := rhoB) (y := az) (bu := bu) (bad := bad) (qs := qs) (i := 0) (x := ⟨0, 0, l⟩) hq hl hw h8
  have ha := runL_app (r := r ++ [rhoB]) (bu := bu) (bad := bad) (qs' := [qB n d]) (qs := qs) (i := 0) (x := ⟨0, 0, l ++ [az]⟩)
  have hm' : runL (r ++ [rhoB]) bu bad qs 0 ⟨0, 0, l ++ [az]⟩ = _ := hm
  rw [hm'] at ha
  simp only at ha
  rw [ha]
  generalize runL r bu bad qs 0 ⟨0, 0, l⟩ = z
  refine ⟨fun h => by rw [if_pos h], fun h hu => ?_, fun h hu => ?_⟩
  · rw [if_neg (fun e => e h)]
    have hs : stepF (r ++ [rhoB]) bu bad (0 + qs.length) (qB n d) (z.2.2.plus az) = (20, { z.2.2.plus az with units := bu }) := stepF_20 (x := z.2.2.plus az) hu
    rw [runL_hit (by rw [hs]; show (20 : Int) ≠ 0; decide), hs]
    exact ⟨rfl, rfl⟩
  · rw [if_neg (fun e => e h)]
    have hk : keyAt (r ++ [rhoB]) n = budK := by
      rw [keyAt_eq (by rw [hn]; simp)]
      simp [hn, rhoB]
    have hs : stepF (r ++ [rhoB]) bu bad (0 + qs.length) (qB n d) (z.2.2.plus az) = (0, { z.2.2.plus az with units := (z.2.2.plus az).units + 150 }) := by
      rw [stepF_act (x := z.2.2.plus az) hu (by omega), actF_b (by exact hk)]
    rw [runL_go (by rw [hs]), hs]
    exact ⟨rfl, rfl⟩

end Go.Fer
