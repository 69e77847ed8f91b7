/- plainly: what is taken off a packet is what is put -/
import Derived.Test.YtmiacbnmifejdaaPG
import Derived.Test.YtmiacbnmifejdaaC
set_option linter.all false
namespace Go.Fer
open Go Go.Proofs Go.RowKit

theorem vec64_toList (k : Vector UInt8 64) : vecOf 64 k.toList = k := by
  unfold vecOf
  rw [dif_pos (by simp)]
  apply Vector.ext
  intro i hi
  simp
theorem chunk_cons (k : Nat) (ys : List UInt8) : chunk (k + 1) ys = vecOf 64 (ys.take 64) :: chunk k (ys.drop 64) := by
  unfold chunk
  rw [List.range_succ_eq_map, List.map_cons, List.map_map]
  refine congr (congrArg List.cons (by simp)) (List.map_congr_left fun i _ => ?_)
  simp only [Function.comp, List.drop_drop]
  rw [show 64 * (i + 1) = 64 + 64 * i by omega]
theorem sigB_cons (v : Vector UInt8 64) (l : List (Vector UInt8 64)) : sigB (v :: l) = v.toList ++ sigB l := by unfold sigB; rw [List.flatMap_cons]
theorem chunk_sig : ∀ (l : List (Vector UInt8 64)) (r : List UInt8), chunk l.length (sigB l ++ r) = l
  | [], r => rfl
  | v :: l, r => by
    have hv : v.toList.length = 64 := by simp
    rw [List.length_cons, chunk_cons, sigB_cons, List.append_assoc]
    have h1 : (v.toList ++ (sigB l ++ r)).take 64 = v.toList := by have h := List.take_left (l₁ := v.toList) (l₂ := sigB l ++ r); rw [hv] at h; exact h
    have h2 : (v.toList ++ (sigB l ++ r)).drop 64 = sigB l ++ r := by have h := List.drop_left (l₁ := v.toList) (l₂ := sigB l ++ r); rw [hv] at h; exact h
    rw [h1, h2, vec64_toList, chunk_sig l r]
theorem sig_chunk : ∀ (k : Nat) (ys : List UInt8), 64 * k ≤ ys.length → sigB (chunk k ys) = ys.take (64 * k)
  | 0, ys, _ => by rw [Nat.mul_zero, List.take_zero]; rfl
  | k + 1, ys, h => by
    rw [chunk_cons, sigB_cons, vecOf_eq (by rw [List.length_take]; omega), sig_chunk k (ys.drop 64) (by rw [List.length_drop]; omega)]
    rw [show 64 * (k + 1) = 64 + 64 * k by omega, List.take_add]
theorem ptB_eq (x : TC) : ptB x = shortB x.sigs.length ++ (sigB x.sigs ++ putF x.m) := by unfold ptB; rw [List.append_assoc]
theorem ptB_leq (x : TC) : (ptB x).length = (shortB x.sigs.length).length + (64 * x.sigs.length + (putF x.m).length) := by rw [ptB_eq, List.length_append, List.length_append, sigB_all]
theorem gtF_put {x : TC} (hm : mayF x.m = true) (hs : x.sigs.length ≤ 65535) (r : List UInt8) : gtF (ptB x ++ r) = (x, (ptB x).length, 0) := by
  have hx : ptB x ++ r = shortB x.sigs.length ++ (sigB x.sigs ++ (putF x.m ++ r)) := by rw [ptB_eq]; simp only [List.append_assoc]
  have hl := ptB_leq x
  have hsb := sigB_all x.sigs
  have hg := gs_put x.sigs.length hs (sigB x.sigs ++ (putF x.m ++ r))
  rw [← hx] at hg
  have h1 : (ptB x ++ r).drop (shortB x.sigs.length).length = sigB x.sigs ++ (putF x.m ++ r) := by rw [hx]; exact List.drop_left
  have h2 : (ptB x ++ r).drop ((shortB x.sigs.length).length + 64 * x.sigs.length) = putF x.m ++ r := by rw [← List.drop_drop, h1, ← hsb]; exact List.drop_left
  have hgt := gtF_m (xs := ptB x ++ r) (c := x.m) (t := (putF x.m).length) (e := 0) (by rw [hg]) (by rw [hg, List.length_append]; simp only [Int.toNat_natCast]; omega) (by rw [hg]; simp only [Int.toNat_natCast]; rw [h2]; exact getF_put hm r)
  rw [hgt, if_pos rfl, hg]
  simp only [Int.toNat_natCast]
  rw [h1, chunk_sig, hl, Nat.add_assoc]
theorem gtF_cut {x : TC} (hm : mayF x.m = true) (hs : x.sigs.length ≤ 65535) {j : Nat} (hj : j < (ptB x).length) : gtF ((ptB x).take j) = (zTC, 0, 5) := by
  have hl := ptB_leq x
  have hsb := sigB_all x.sigs
  have htl : ((ptB x).take j).length = j := by rw [List.length_take]; omega
  by_cases h : j < (shortB x.sigs.length).length
  · have hg := gs_cut x.sigs.length j h
    have e : (ptB x).take j = (shortB x.sigs.length).take j := by rw [ptB_eq, List.take_append_of_le_length (by omega)]
    rw [e, gtF_e (by rw [hg]; decide), hg]
  · have e : (ptB x).take j = shortB x.sigs.length ++ (sigB x.sigs ++ putF x.m).take (j - (shortB x.sigs.length).length) := by rw [ptB_eq, List.take_append, List.take_of_length_le (by omega)]
    have hg := gs_put x.sigs.length hs ((sigB x.sigs ++ putF x.m).take (j - (shortB x.sigs.length).length))
    rw [← e] at hg
    by_cases h3 : j - (shortB x.sigs.length).length < 64 * x.sigs.length
    · exact gtF_short (by rw [hg]) (by rw [hg, htl]; simp only [Int.toNat_natCast]; omega)
    · have h2 : ((ptB x).take j).drop ((shortB x.sigs.length).length + 64 * x.sigs.length) = (putF x.m).take (j - (shortB x.sigs.length).length - 64 * x.sigs.length) := by
        rw [← List.drop_drop, e, List.drop_left, List.take_append, List.take_of_length_le (by omega), hsb, ← hsb, List.drop_left]
      have hgt := gtF_m (xs := (ptB x).take j) (c := zMC) (t := 0) (e := 5) (by rw [hg]) (by rw [hg, htl]; simp only [Int.toNat_natCast]; omega) (by rw [hg]; simp only [Int.toNat_natCast]; rw [h2]; exact getF_cut hm (by omega))
      rw [hgt, if_neg (by decide)]
theorem gtF_err {xs : List UInt8} {x : TC} {t : Nat} {e : Int} (h : gtF xs = (x, t, e)) (he : e ≠ 0) : x = zTC ∧ t = 0 := by
  unfold gtF at h
  split at h
  · split at h
    · cases h; exact ⟨rfl, rfl⟩
    · split at h
      · cases h; exact absurd rfl he
      · cases h; exact ⟨rfl, rfl⟩
  · cases h; exact ⟨rfl, rfl⟩
theorem whF_err {xs : List UInt8} {x : TC} {e : Int} (h : whF xs = (x, e)) (he : e ≠ 0) : x = zTC := by
  unfold whF at h
  split at h
  · cases h; rfl
  · split at h
    · split at h
      · cases h; rfl
      · cases h; exact absurd rfl he
    · cases h; rfl
theorem gtF_only {xs : List UInt8} {x : TC} {t : Nat} (h : gtF xs = (x, t, 0)) : mayF x.m = true ∧ ptB x = xs.take t ∧ t ≤ xs.length ∧ x.sigs.length ≤ 65535 := by
  rcases gs_cases xs with (hc | hc) | ⟨n, k, hc, h1, h2, h3, h4, h5⟩
  · rw [gtF_e (by rw [hc]; decide), hc] at h; cases h
  · rw [gtF_e (by rw [hc]; decide), hc] at h; cases h
  · by_cases hs : xs.length - k < 64 * n
    · rw [gtF_short (by rw [hc]) (by rw [hc]; simp only [Int.toNat_natCast]; exact hs)] at h; cases h
    · obtain ⟨c, u, e, hG⟩ : ∃ (c : MC) (u : Nat) (e : Int), getF (xs.drop (k + 64 * n)) = (c, u, e) := ⟨_, _, _, rfl⟩
      have hgt := gtF_m (xs := xs) (c := c) (t := u) (e := e) (by rw [hc]) (by rw [hc]; simp only [Int.toNat_natCast]; exact hs) (by rw [hc]; simp only [Int.toNat_natCast]; exact hG)
      rw [hgt, hc] at h
      simp only [Int.toNat_natCast] at h
      by_cases he : e = 0
      · subst he
        rw [if_pos rfl] at h
        cases h
        obtain ⟨hm, hp, hu, _⟩ := getF_only hG
        rw [List.length_drop] at hu
        refine ⟨hm, ?_, by omega, by rw [chunk_len]; exact h3⟩
        rw [ptB_eq]
        simp only [chunk_len]
        rw [sig_chunk n _ (by rw [List.length_drop]; omega), hp, h5, List.take_add (l := xs) (i := k + 64 * n), List.take_add (l := xs) (i := k), List.append_assoc]
      · rw [if_neg he] at h; cases h; exact absurd rfl he
theorem whF_only {xs : List UInt8} {x : TC} (h : whF xs = (x, 0)) : mayF x.m = true ∧ ptB x = xs ∧ xs.length ≤ 1232 ∧ x.sigs.length ≤ 65535 := by
  obtain ⟨y, t, e, hG⟩ : ∃ (y : TC) (t : Nat) (e : Int), gtF xs = (y, t, e) := ⟨_, _, _, rfl⟩
  by_cases hl : 1232 < xs.length
  · rw [whF_lim hl] at h; cases h
  · by_cases he : e = 0
    · subst he
      by_cases ht : t < xs.length
      · rw [whF_more hl hG ht] at h; cases h
      · rw [whF_ok hl hG ht] at h
        cases h
        obtain ⟨h1, h2, h3, h4⟩ := gtF_only hG
        exact ⟨h1, by rw [h2, List.take_of_length_le (by omega)], by omega, h4⟩
    · rw [whF_e hl hG he] at h; cases h; exact absurd rfl he
theorem zMC_size : zMC.size = 0 := by decide
theorem gtF_size (xs : List UInt8) : (gtF xs).1.m.size ≤ xs.length := by
  obtain ⟨y, t, e, hG⟩ : ∃ (y : TC) (t : Nat) (e : Int), gtF xs = (y, t, e) := ⟨_, _, _, rfl⟩
  rw [hG]
  show y.m.size ≤ xs.length
  by_cases he : e = 0
  · subst he
    obtain ⟨h1, h2, h3, h4⟩ := gtF_only hG
    have h5 := size_le_put h1
    have h6 := ptB_leq y
    rw [h2, List.length_take] at h6
    omega
  · rw [(gtF_err hG he).1]
    show zMC.size ≤ _
    rw [zMC_size]; exact Nat.zero_le _
theorem whF_size (xs : List UInt8) : (whF xs).1.m.size ≤ xs.length := by
  obtain ⟨y, e, hG⟩ : ∃ (y : TC) (e : Int), whF xs = (y, e) := ⟨_, _, rfl⟩
  rw [hG]
  show y.m.size ≤ xs.length
  by_cases he : e = 0
  · subst he
    obtain ⟨h1, h2, h3, h4⟩ := whF_only hG
    have h5 := size_le_put h1
    have h6 := ptB_leq y
    rw [h2] at h6
    omega
  · rw [whF_err hG he]
    show zMC.size ≤ _
    rw [zMC_size]; exact Nat.zero_le _
theorem whF_put {x : TC} (hm : mayF x.m = true) (hs : x.sigs.length ≤ 65535) (hl : (ptB x).length ≤ 1232) : whF (ptB x) = (x, 0) := by
  have h := gtF_put hm hs []
  rw [List.append_nil] at h
  exact whF_ok (by omega) h (Nat.lt_irrefl _)
theorem whF_put1 {x : TC} (hm : mayF x.m = true) (hs : x.sigs.length ≤ 65535) (hl : (ptB x).length ≤ 1232) (y : UInt8) : whF (ptB x ++ [y]) = (zTC, if (ptB x).length = 1232 then 3 else 4) := by
  have h := gtF_put hm hs [y]
  by_cases hc : (ptB x).length = 1232
  · rw [if_pos hc, whF_lim (by rw [List.length_append, hc, List.length_singleton]; decide)]
  · rw [if_neg hc]
    exact whF_more (by rw [List.length_append, List.length_singleton]; omega) h (by rw [List.length_append, List.length_singleton]; omega)
theorem whF_cut {x : TC} (hm : mayF x.m = true) (hs : x.sigs.length ≤ 65535) (hl : (ptB x).length ≤ 1232) {j : Nat} (hj : j < (ptB x).length) : whF ((ptB x).take j) = (zTC, 5) :=
  whF_e (by rw [List.length_take]; omega) (gtF_cut hm hs hj) (by decide)
theorem GotT.isT {wb w : World} {t : Tx} {is : List Instr} {ls : List Lookup} {x : TC} (h : GotT t is ls x) (hS : St wb (gotTL t is ls x) w) : IsT w t x is ls := by
  unfold gotTL at hS
  exact ⟨hS.sl (v := t.sigs.v) (xs := x.sigs) .h0, GotM.isM (c := x.m) h (hS.sub (List.sublist_cons_self _ _))⟩
theorem zIsT (w : World) : IsT w (⟨⟨none, 0, 0⟩, ⟨false, ⟨0, 0, 0⟩, ⟨none, 0, 0⟩, vz 32, ⟨none, 0, 0⟩, ⟨none, 0, 0⟩⟩⟩ : Tx) zTC [] [] := ⟨SlR.nil _, zIsM w⟩
theorem okz_isT {w : World} {t : Tx} (ht : t.okz w) : ∃ x ins lks, IsT w t x ins lks ∧ x.m.keys.length ≤ 140737488351232 ∧ ins.length ≤ 140737488351232 ∧ lks.length ≤ 140737488351232 ∧ (∀ i (h : i < x.m.ins.length), x.m.ins[i].2.1.length ≤ 140737488351232 ∧ x.m.ins[i].2.2.length ≤ 140737488351232) ∧ (∀ i (h : i < x.m.lks.length), x.m.lks[i].2.1.length ≤ 140737488351232 ∧ x.m.lks[i].2.2.length ≤ 140737488351232) := by
  obtain ⟨⟨l, hl, _, _⟩, hm⟩ := ht
  obtain ⟨c, ins, lks, hc, hbd⟩ := okz_isM hm
  exact ⟨⟨l, c⟩, ins, lks, ⟨hl, hc⟩, hbd⟩
theorem ptE_cases (x : TC) : (ptE x = 0 ∧ mayF x.m = true ∧ (ptB x).length ≤ 1232 ∧ ptL x = ptB x) ∨ ((ptE x = 1 ∨ ptE x = 3) ∧ ptL x = []) := by
  unfold ptL
  cases hm : mayF x.m with
  | false =>
    right
    have h : ptE x = 1 := by unfold ptE; rw [hm]; rfl
    exact ⟨.inl h, by rw [h]; rfl⟩
  | true =>
    by_cases hl : 1232 < (ptB x).length
    · right
      have h : ptE x = 3 := by unfold ptE; rw [if_pos hm, if_pos hl]
      exact ⟨.inr h, by rw [h]; rfl⟩
    · left
      have h : ptE x = 0 := by unfold ptE; rw [if_pos hm, if_neg hl]
      exact ⟨h, rfl, by omega, by rw [if_pos h]⟩

end Go.Fer
