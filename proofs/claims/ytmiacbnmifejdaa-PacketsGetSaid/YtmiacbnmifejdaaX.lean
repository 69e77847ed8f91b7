/- plainly: what is taken is what is put -/
import Derived.Test.YtmiacbnmifejdaaF
import Derived.Test.YtmiacbnmifejdaaH
set_option linter.all false
namespace Go.Fer
open Go Go.Proofs Go.RowKit

theorem u8_lt' (c : UInt8) : c.toNat < 256 := u8_lt c

theorem ofNat_toNat8 (c : UInt8) : UInt8.ofNat c.toNat = c := by simp
theorem lo_of {n : Nat} {c : UInt8} (h : n % 128 + 128 = c.toNat) : lo n = c := by unfold lo; rw [h]; exact ofNat_toNat8 c
/-- what is taken as a short number, or why not -/
theorem gs_cases (b : List UInt8) : (gs b 0 0 = (0, 0, 4) ∨ gs b 0 0 = (0, 0, 5)) ∨ ∃ n k : Nat, gs b 0 0 = ((n : Int), (k : Int), 0) ∧ 1 ≤ k ∧ k ≤ 3 ∧ n ≤ 65535 ∧ k ≤ b.length ∧ shortB n = b.take k := by
  match b with
  | [] => exact .inl (.inr rfl)
  | c1 :: r =>
    have l1 := u8_lt c1
    by_cases h1 : c1.toNat < 128
    · refine .inr ⟨c1.toNat, 1, ?_, by omega, by omega, by omega, by simp, ?_⟩
      · have h2 : ((c1.toNat : Int) < 128) := by omega
        have h3 : c1.toNat % 128 = c1.toNat := by omega
        simp [gs, h2, h3]
      · unfold shortB; rw [if_pos h1, ofNat_toNat8]; rfl
    have e1 : gs (c1 :: r) 0 0 = gs r 1 (c1.toNat % 128) := by
      have h2 : ¬ ((c1.toNat : Int) < 128) := by omega
      simp [gs, h2]
    rw [e1]
    rcases r with _ | ⟨c2, r⟩
    · exact .inl (.inr rfl)
    ·
      have l2 := u8_lt c2
      by_cases z2 : c2.toNat = 0
      · exact .inl (.inl (by simp [gs, z2]))
      by_cases h2 : c2.toNat < 128
      · refine .inr ⟨c1.toNat % 128 + c2.toNat * 128, 2, ?_, by omega, by omega, by omega, by simp, ?_⟩
        · have h3 : ((c2.toNat : Int) < 128) := by omega
          have h4 : c2.toNat % 128 = c2.toNat := by omega
          have h5 : ¬ ((c2.toNat : Int) = 0) := by omega
          simp [gs, h3, h4, z2]
        · unfold shortB; rw [if_neg (by omega), if_pos (by omega), lo_of (c := c1) (by omega), show (c1.toNat % 128 + c2.toNat * 128) / 128 = c2.toNat by omega, ofNat_toNat8]; rfl
      have e2 : gs (c2 :: r) 1 (c1.toNat % 128) = gs r 2 (c1.toNat % 128 + c2.toNat % 128 * 128) := by
        have h3 : ¬ ((c2.toNat : Int) < 128) := by omega
        have h5 : ¬ ((c2.toNat : Int) = 0) := by omega
        simp [gs, h3, z2]
      rw [e2]
      rcases r with _ | ⟨c3, r⟩
      · exact .inl (.inr rfl)
      ·
        have l3 := u8_lt c3
        by_cases z3 : c3.toNat = 0
        · exact .inl (.inl (by simp [gs, z3]))
        by_cases g3 : 3 < c3.toNat
        · exact .inl (.inl (by simp [gs, g3]; omega))
        refine .inr ⟨c1.toNat % 128 + c2.toNat % 128 * 128 + c3.toNat * 16384, 3, ?_, by omega, by omega, by omega, by simp, ?_⟩
        · have h3 : ((c3.toNat : Int) < 128) := by omega
          have h4 : c3.toNat % 128 = c3.toNat := by omega
          have h6 : ¬ (3 < (c3.toNat : Int)) := by omega
          simp [gs, h3, h4, z3, h6]
        · unfold shortB; rw [if_neg (by omega), if_neg (by omega), lo_of (c := c1) (by omega), lo_of (c := c2) (by omega), show (c1.toNat % 128 + c2.toNat % 128 * 128 + c3.toNat * 16384) / 128 / 128 = c3.toNat by omega, ofNat_toNat8]; rfl

theorem lo_natN (n : Nat) : (lo n).toNat = n % 128 + 128 := by simp [lo]; omega
theorem gs_put (n : Nat) (hn : n ≤ 65535) (ys : List UInt8) : gs (shortB n ++ ys) 0 0 = ((n : Int), ((shortB n).length : Int), 0) := by
  have z := lo_natN n
  have z2 := lo_natN (n / 128)
  unfold shortB
  split
  · rename_i h1
    have e : (UInt8.ofNat n).toNat = n := by simp; omega
    have h2 : ((n : Int) < 128) := by omega
    have h3 : n % 128 = n := by omega
    simp [gs, e, h2, h3]
  · split
    · rename_i h1 h2
      have e : (UInt8.ofNat (n / 128)).toNat = n / 128 := by simp; omega
      have a1 : ¬ (((lo n).toNat : Int) < 128) := by omega
      have a2 : ((n : Int) / 128 < 128) := by omega
      have a3 : ¬ (n / 128 = 0) := by omega
      have a4 : ¬ ((n : Int) / 128 = 0) := by omega
      have a5 : n % 128 + n / 128 % 128 * 128 = n := by omega
      have a6 : (n % 128 + 128) % 128 = n % 128 := by omega
      have a7 : ¬ (((n % 128 + 128 : Nat) : Int) < 128) := by omega
      have a8 : ((n : Int) % 128 + (n : Int) / 128 % 128 * 128) = n := by omega
      have a9 : ¬ ((n : Int) % 128 + 128 < 128) := by omega
      simp [gs, e, z, a2, a4, a6, a8, a9, -Int.not_lt]
    · rename_i h1 h2
      have e : (UInt8.ofNat (n / 128 / 128)).toNat = n / 128 / 128 := by simp; omega
      have b1 : (n % 128 + 128) % 128 = n % 128 := by omega
      have b2 : (n / 128 % 128 + 128) % 128 = n / 128 % 128 := by omega
      have c1 : ¬ ((n : Int) % 128 + 128 < 128) := by omega
      have c2 : ¬ ((n : Int) / 128 % 128 + 128 < 128) := by omega
      have c3 : ¬ ((n : Int) / 128 / 128 = 0) := by omega
      have c4 : (n : Int) / 128 / 128 < 128 := by omega
      have c5 : ¬ (3 < (n : Int) / 128 / 128) := by omega
      have c6 : ((n : Int) % 128 + (n : Int) / 128 % 128 * 128 + (n : Int) / 128 / 128 % 128 * 16384) = n := by omega
      have c7 : ¬ ((n : Int) / 128 % 128 + 128 = 0) := by omega
      simp [-Int.not_lt, gs, e, z, z2, b1, b2, c1, c2, c3, c4, c5, c6, c7]
theorem gs_cut (n : Nat) (k : Nat) (hk : k < (shortB n).length) : gs ((shortB n).take k) 0 0 = (0, 0, 5) := by
  have z := lo_natN n
  have z2 := lo_natN (n / 128)
  have c1 : ¬ ((n : Int) % 128 + 128 < 128) := by omega
  have c2 : ¬ ((n : Int) / 128 % 128 + 128 < 128) := by omega
  have c7 : ¬ ((n : Int) / 128 % 128 + 128 = 0) := by omega
  unfold shortB at hk ⊢
  split at hk
  · rename_i h1
    obtain rfl : k = 0 := by simpa using hk
    rfl
  · rename_i h1
    rw [if_neg h1]
    split at hk
    · rename_i h2
      rw [if_pos h2]
      match k, hk with
      | 0, _ => rfl
      | 1, _ => simp [-Int.not_lt, gs, z, c1]
    · rename_i h2
      rw [if_neg h2]
      match k, hk with
      | 0, _ => rfl
      | 1, _ => simp [-Int.not_lt, gs, z, c1]
      | 2, _ => simp [-Int.not_lt, gs, z, z2, c1, c2, c7]

/-- these bytes were taken -/
def Took (xs : List UInt8) (a a' : Nat) (p : List UInt8) : Prop := a' ≤ xs.length ∧ a' = a + p.length ∧ xs.drop a = p ++ xs.drop a'
theorem Took.app {xs p q : List UInt8} {a b c : Nat} (h : Took xs a b p) (g : Took xs b c q) : Took xs a c (p ++ q) :=
  ⟨g.1, by rw [g.2.1, h.2.1, List.length_append]; omega, by rw [h.2.2, g.2.2, List.append_assoc]⟩
theorem Took.nil {xs : List UInt8} {a : Nat} (h : a ≤ xs.length) : Took xs a a [] := ⟨h, rfl, rfl⟩
theorem took_bytes {xs : List UInt8} {n a a' : Nat} (ha : a ≤ xs.length) (h : (rBytes xs n (.ok a)).2 = .ok a') : Took xs a a' (rBytes xs n (.ok a)).1 := by
  obtain ⟨h1, h2, h3, h4, h5⟩ := rBytes_le ha h
  refine ⟨h1, by rw [h5]; exact h2, ?_⟩
  rw [h4, h2, ← List.drop_drop, List.take_append_drop]
theorem took_byte {xs : List UInt8} {a a' : Nat} (ha : a ≤ xs.length) (h : (rByte xs (.ok a)).2 = .ok a') : Took xs a a' [(rByte xs (.ok a)).1] := by
  have h1 := took_bytes ha h
  obtain ⟨_, _, _, _, h5⟩ := rBytes_le ha h
  have e : (rBytes xs 1 (.ok a)).1 = [(rByte xs (.ok a)).1] := by
    unfold rByte
    generalize (rBytes xs 1 (.ok a)).1 = l at h5
    match l, h5 with
    | [x], _ => rfl
  rw [e] at h1; exact h1
theorem took_short {xs : List UInt8} {a a' : Nat} (ha : a ≤ xs.length) (h : (rShort xs (.ok a)).2 = .ok a') : Took xs a a' (shortB (rShort xs (.ok a)).1) := by
  have hv : (rShort xs (.ok a)).1 = (gs (xs.drop a) 0 0).1.toNat := rfl
  rw [rShort_ok] at h
  rcases gs_cases (xs.drop a) with (hc | hc) | ⟨n, k, hc, h1, h2, h3, h4, h5⟩
  · rw [hc] at h; simp at h
  · rw [hc] at h; simp at h
  · rw [hv, hc]
    rw [hc] at h
    simp only [if_true, Int.toNat_natCast] at h ⊢
    cases h
    rw [List.length_drop] at h4
    have hl : (shortB n).length = k := by rw [h5, List.length_take, List.length_drop]; omega
    refine ⟨by omega, by rw [hl], ?_⟩
    rw [h5, ← List.drop_drop, List.take_append_drop]
theorem took_list {xs : List UInt8} {a a' : Nat} (ha : a ≤ xs.length) (h : (rList xs (.ok a)).2 = .ok a') : Took xs a a' (listB (rList xs (.ok a)).1) ∧ (rList xs (.ok a)).1.length ≤ 65535 := by
  cases h1 : (rShort xs (.ok a)).2 with
  | error e => simp only [rList, h1, rBytes_e] at h; cases h
  | ok b =>
    have hb := rShort_le ha h1
    simp only [rList, h1] at h ⊢
    obtain ⟨_, _, _, _, h5⟩ := rBytes_le hb h
    have hlt := rShort_lt xs (.ok a)
    refine ⟨?_, by omega⟩
    unfold listB
    rw [h5]
    exact (took_short ha h1).app (took_bytes hb h)
theorem vecOf_toList (k : Vector UInt8 32) : vecOf 32 k.toList = k := by
  unfold vecOf
  rw [dif_pos (by simp)]
  apply Vector.ext
  intro i hi
  simp
theorem took_key {xs : List UInt8} {a a' : Nat} (ha : a ≤ xs.length) (h : (rKey xs (.ok a)).2 = .ok a') : Took xs a a' (rKey xs (.ok a)).1.toList := by
  obtain ⟨_, _, _, _, h5⟩ := rBytes_le ha h
  have h1 := took_bytes ha h
  unfold rKey
  show Took xs a a' (vecOf 32 (rBytes xs 32 (.ok a)).1).toList
  rw [vecOf_eq h5]; exact h1
theorem took_instr {xs : List UInt8} {a a' : Nat} (ha : a ≤ xs.length) (h : (rInstr xs (.ok a)).2 = .ok a') : Took xs a a' (putI (rInstr xs (.ok a)).1) ∧ (rInstr xs (.ok a)).1.2.1.length ≤ 65535 ∧ (rInstr xs (.ok a)).1.2.2.length ≤ 65535 := by
  cases h1 : (rByte xs (.ok a)).2 with
  | error e => simp only [rInstr, h1, rList_e] at h; cases h
  | ok b =>
    have t1 := took_byte ha h1
    cases h2 : (rList xs (.ok b)).2 with
    | error e => simp only [rInstr, h1, h2, rList_e] at h; cases h
    | ok c =>
      have t2 := took_list t1.1 h2
      have h3 : (rList xs (.ok c)).2 = .ok a' := by simpa only [rInstr, h1, h2] using h
      have t3 := took_list t2.1.1 h3
      have e : (rInstr xs (.ok a)).1 = ((rByte xs (.ok a)).1, (rList xs (.ok b)).1, (rList xs (.ok c)).1) := by simp only [rInstr, h1, h2]
      rw [e]
      exact ⟨t1.app (t2.1.app t3.1), t2.2, t3.2⟩
theorem took_lookup {xs : List UInt8} {a a' : Nat} (ha : a ≤ xs.length) (h : (rLookup xs (.ok a)).2 = .ok a') : Took xs a a' (putL (rLookup xs (.ok a)).1) ∧ (rLookup xs (.ok a)).1.2.1.length ≤ 65535 ∧ (rLookup xs (.ok a)).1.2.2.length ≤ 65535 := by
  cases h1 : (rKey xs (.ok a)).2 with
  | error e => simp only [rLookup, h1, rList_e] at h; cases h
  | ok b =>
    have t1 := took_key ha h1
    cases h2 : (rList xs (.ok b)).2 with
    | error e => simp only [rLookup, h1, h2, rList_e] at h; cases h
    | ok c =>
      have t2 := took_list t1.1 h2
      have h3 : (rList xs (.ok c)).2 = .ok a' := by simpa only [rLookup, h1, h2] using h
      have t3 := took_list t2.1.1 h3
      have e : (rLookup xs (.ok a)).1 = ((rKey xs (.ok a)).1, (rList xs (.ok b)).1, (rList xs (.ok c)).1) := by simp only [rLookup, h1, h2]
      rw [e]
      exact ⟨t1.app (t2.1.app t3.1), t2.2, t3.2⟩
theorem took_many {α : Type} {xs : List UInt8} {one : RS → α × RS} {put : α → List UInt8} {good : α → Prop} (h1 : ∀ a a', a ≤ xs.length → (one (.ok a)).2 = .ok a' → Took xs a a' (put (one (.ok a)).1) ∧ good (one (.ok a)).1) :
    ∀ (n a a' : Nat), a ≤ xs.length → (rMany one n (.ok a)).2 = .ok a' → Took xs a a' ((rMany one n (.ok a)).1.flatMap put) ∧ (rMany one n (.ok a)).1.length = n ∧ ∀ x ∈ (rMany one n (.ok a)).1, good x
  | 0, a, a', ha, h => by
    cases h
    exact ⟨Took.nil ha, rfl, fun x hx => by cases hx⟩
  | n + 1, a, a', ha, h => by
    cases h2 : (one (.ok a)).2 with
    | error e => rw [rMany_succ, h2, rMany_e] at h; cases h
    | ok b =>
      rw [rMany_succ, h2] at h ⊢
      have t1 := h1 a b ha h2
      obtain ⟨t2, t3, t4⟩ := took_many h1 n b a' t1.1.1 h
      refine ⟨t1.1.app t2, by simp only [List.length_cons, t3], fun x hx => ?_⟩
      rcases List.mem_cons.1 hx with rfl | hx
      · exact t1.2
      · exact t4 x hx
theorem took_all {α : Type} {xs : List UInt8} {one : RS → α × RS} {put : α → List UInt8} {good : α → Prop} (h1 : ∀ a a', a ≤ xs.length → (one (.ok a)).2 = .ok a' → Took xs a a' (put (one (.ok a)).1) ∧ good (one (.ok a)).1)
    {a a' : Nat} (ha : a ≤ xs.length) (h : (rAll xs one (.ok a)).2 = .ok a') : Took xs a a' (shortB (rAll xs one (.ok a)).1.length ++ (rAll xs one (.ok a)).1.flatMap put) ∧ (rAll xs one (.ok a)).1.length ≤ 65535 ∧ ∀ x ∈ (rAll xs one (.ok a)).1, good x := by
  cases h2 : (rShort xs (.ok a)).2 with
  | error e => unfold rAll at h; rw [h2, rMany_e] at h; cases h
  | ok b =>
    have hb := rShort_le ha h2
    unfold rAll at h ⊢
    rw [h2] at h ⊢
    obtain ⟨t2, t3, t4⟩ := took_many h1 _ b a' hb h
    have hlt := rShort_lt xs (.ok a)
    rw [t3]
    exact ⟨(took_short ha h2).app t2, by omega, t4⟩
theorem took_first {xs : List UInt8} {a a' : Nat} (ha : a ≤ xs.length) (h : (rFirst xs (.ok a)).2 = .ok a') : Took xs a a' ((if (rFirst xs (.ok a)).1.2 = true then ([128] : List UInt8) else []) ++ [(rFirst xs (.ok a)).1.1]) ∧ ((rFirst xs (.ok a)).1.2 = false → (rFirst xs (.ok a)).1.1.toNat < 128) := by
  cases h1 : (rByte xs (.ok a)).2 with
  | error e => rw [rFirst_e1 h1] at h; cases h
  | ok b =>
    have t1 := took_byte ha h1
    by_cases hg : 128 < (rByte xs (.ok a)).1.toNat
    · rw [rFirst_e2 h1 hg] at h; cases h
    · by_cases h128 : (rByte xs (.ok a)).1.toNat = 128
      · cases h2 : (rByte xs (.ok b)).2 with
        | error e => rw [rFirst_e3 h1 h128 h2] at h; cases h
        | ok c =>
          have e := rFirst_new h1 h128 h2
          rw [e] at h ⊢
          cases h
          have t2 := took_byte t1.1 h2
          have e8 : (rByte xs (.ok a)).1 = 128 := UInt8.toNat_inj.1 h128
          rw [e8] at t1
          exact ⟨t1.app t2, fun h => by cases h⟩
      · have e := rFirst_old h1 (by omega)
        rw [e] at h ⊢
        cases h
        exact ⟨t1, fun _ => (show (rByte xs (.ok a)).1.toNat < 128 by omega)⟩
theorem longs_of {α : Type} : ∀ (l : List (α × List UInt8 × List UInt8)) (a n : Nat), a ≤ n → (∀ x ∈ l, x.2.1.length ≤ n ∧ x.2.2.length ≤ n) → longs a l ≤ n
  | [], a, n, h, _ => h
  | x :: l, a, n, h, hx => by
    have := hx x List.mem_cons_self
    exact longs_of l _ n (show max (max a x.2.1.length) x.2.2.length ≤ n by omega) (fun y hy => hx y (List.mem_cons_of_mem _ hy))
/-- a message as bytes, in parts -/
theorem putF_eq (c : MC) : putF c = ((if c.v0 = true then ([128] : List UInt8) else []) ++ [c.h.signers]) ++ ([c.h.readSigned] ++ ([c.h.readOther] ++ ((shortB c.keys.length ++ c.keys.flatMap Vector.toList) ++ (c.recent.toList ++ ((shortB c.ins.length ++ c.ins.flatMap putI) ++ (if c.v0 = true then shortB c.lks.length ++ c.lks.flatMap putL else [])))))) := by
  unfold putF put4 put3 put2 put1 putH
  simp only [List.take_length]
  split <;> simp only [List.append_assoc, List.cons_append, List.nil_append, List.append_nil]
theorem took_msg {xs : List UInt8} {a a' : Nat} (ha : a ≤ xs.length) (h : (rMsg xs (.ok a)).2 = .ok a') : Took xs a a' (putF (rMsg xs (.ok a)).1) ∧ mayF (rMsg xs (.ok a)).1 = true := by
  cases h0 : rFirst xs (.ok a) with
  | mk g s =>
  cases s with
  | error e => rw [rMsg_e (by rw [h0])] at h; cases h
  | ok a1 =>
  have t0 := took_first (a' := a1) ha (by rw [h0])
  rw [h0] at t0
  cases h1 : (rByte xs (.ok a1)).2 with
  | error e => simp only [rMsg, h0, h1, rByte_e, rAll_e, rKey_e, ite_self] at h; cases h
  | ok a2 =>
  have t1 := took_byte t0.1.1 h1
  cases h2 : (rByte xs (.ok a2)).2 with
  | error e => simp only [rMsg, h0, h1, h2, rByte_e, rAll_e, rKey_e, ite_self] at h; cases h
  | ok a3 =>
  have t2 := took_byte t1.1 h2
  cases h3 : (rAll xs (rKey xs) (.ok a3)).2 with
  | error e => simp only [rMsg, h0, h1, h2, h3, rByte_e, rAll_e, rKey_e, ite_self] at h; cases h
  | ok a4 =>
  have t3 := took_all (put := Vector.toList) (good := fun _ => True) (fun a a' ha h => ⟨took_key ha h, trivial⟩) t2.1 h3
  cases h4 : (rKey xs (.ok a4)).2 with
  | error e => simp only [rMsg, h0, h1, h2, h3, h4, rByte_e, rAll_e, rKey_e, ite_self] at h; cases h
  | ok a5 =>
  have t4 := took_key t3.1.1 h4
  cases h5 : (rAll xs (rInstr xs) (.ok a5)).2 with
  | error e => simp only [rMsg, h0, h1, h2, h3, h4, h5, rByte_e, rAll_e, rKey_e, ite_self] at h; cases h
  | ok a6 =>
  have t5 := took_all (put := putI) (good := fun x => x.2.1.length ≤ 65535 ∧ x.2.2.length ≤ 65535) (fun a a' ha h => took_instr ha h) t4.1 h5
  obtain ⟨x0, v0⟩ := g
  cases v0 with
  | false =>
    have e : rMsg xs (.ok a) = (⟨false, ⟨x0, (rByte xs (.ok a1)).1, (rByte xs (.ok a2)).1⟩, (rAll xs (rKey xs) (.ok a3)).1, (rKey xs (.ok a4)).1, (rAll xs (rInstr xs) (.ok a5)).1, []⟩, .ok a6) := by
      simp only [rMsg, h0, h1, h2, h3, h4, h5, Bool.false_eq_true, if_false]
    rw [e] at h ⊢
    cases h
    refine ⟨?_, ?_⟩
    · rw [putF_eq]
      have := t0.1.app (t1.app (t2.app (t3.1.app (t4.app (t5.1.app (Took.nil t5.1.1))))))
      exact this
    · unfold mayF longM
      have h6 := longs_of (rAll xs (rInstr xs) (.ok a5)).1 (max (max (rAll xs (rKey xs) (.ok a3)).1.length (rAll xs (rInstr xs) (.ok a5)).1.length) 0) 65535 (by have := t3.2.1; have := t5.2.1; omega) t5.2.2
      rw [Bool.and_eq_true, decide_eq_true_eq]
      refine ⟨h6, ?_⟩
      have h7 : x0.toNat < 128 := t0.2 rfl
      have h8 : x0.toNat < 128 := h7
      simp only [List.length_nil, Bool.false_or, Bool.and_eq_true, decide_eq_true_eq]
      exact ⟨trivial, h8⟩
  | true =>
    cases h6 : (rAll xs (rLookup xs) (.ok a6)).2 with
    | error e => simp only [rMsg, h0, h1, h2, h3, h4, h5, h6, if_true] at h; cases h
    | ok a7 =>
    have t6 := took_all (put := putL) (good := fun x => x.2.1.length ≤ 65535 ∧ x.2.2.length ≤ 65535) (fun a a' ha h => took_lookup ha h) t5.1.1 h6
    have e : rMsg xs (.ok a) = (⟨true, ⟨x0, (rByte xs (.ok a1)).1, (rByte xs (.ok a2)).1⟩, (rAll xs (rKey xs) (.ok a3)).1, (rKey xs (.ok a4)).1, (rAll xs (rInstr xs) (.ok a5)).1, (rAll xs (rLookup xs) (.ok a6)).1⟩, .ok a7) := by
      simp only [rMsg, h0, h1, h2, h3, h4, h5, h6, if_true]
    rw [e] at h ⊢
    cases h
    refine ⟨?_, ?_⟩
    · rw [putF_eq]
      have := t0.1.app (t1.app (t2.app (t3.1.app (t4.app (t5.1.app t6.1)))))
      exact this
    · unfold mayF longM
      have h7 := longs_of (rAll xs (rInstr xs) (.ok a5)).1 (max (max (rAll xs (rKey xs) (.ok a3)).1.length (rAll xs (rInstr xs) (.ok a5)).1.length) (rAll xs (rLookup xs) (.ok a6)).1.length) 65535 (by have := t3.2.1; have := t5.2.1; have := t6.2.1; omega) t5.2.2
      have h8 := longs_of (rAll xs (rLookup xs) (.ok a6)).1 _ 65535 h7 t6.2.2
      rw [Bool.and_eq_true, decide_eq_true_eq]
      exact ⟨h8, rfl⟩
theorem size_le_fm {α : Type} {put : α × List UInt8 × List UInt8 → List UInt8} (hp : ∀ x, 1 + x.2.1.length + x.2.2.length ≤ (put x).length) : ∀ l : List (α × List UInt8 × List UInt8), l.length + sumB l ≤ (l.flatMap put).length
  | [] => by simp [sumB]
  | x :: l => by
    have h1 := size_le_fm hp l
    have h2 := hp x
    simp only [List.length_cons, List.flatMap_cons, List.length_append, sumB, List.map_cons, List.sum_cons] at h1 ⊢
    omega
theorem size_le_put {c : MC} (h : mayF c = true) : c.size ≤ (putF c).length := by
  have h1 := size_le_fm (put := putI) (fun x => by unfold putI listB; simp only [List.length_cons, List.length_append]; omega) c.ins
  have h2 := size_le_fm (put := putL) (fun x => by unfold putL listB; simp only [List.length_append, Vector.length_toList]; omega) c.lks
  have h3 : c.keys.length ≤ (c.keys.flatMap Vector.toList).length := by
    generalize c.keys = l
    induction l with
    | nil => simp
    | cons x l ih => simp only [List.length_cons, List.flatMap_cons, List.length_append, Vector.length_toList]; omega
  rw [putF_eq]
  unfold MC.size
  cases hv : c.v0 with
  | true =>
    simp only [List.length_append, if_true]
    omega
  | false =>
    rw [(mayF_v0 h hv).1]
    have hz : sumB ([] : List (Vector UInt8 32 × List UInt8 × List UInt8)) = 0 := rfl
    rw [hz]
    simp only [List.length_append, List.length_nil]
    omega

theorem rBytes_err {xs : List UInt8} {n : Nat} {s : RS} {e : Int} (hs : ∀ e, s = .error e → e = 4 ∨ e = 5) (h : (rBytes xs n s).2 = .error e) : e = 4 ∨ e = 5 := by
  cases s with
  | error x => simp only [rBytes_e, Except.error.injEq] at h; subst h; exact hs _ rfl
  | ok a =>
    rw [rBytes_ok] at h
    split at h
    · cases h
    · simp only [Except.error.injEq] at h; omega
def ErrOk (s : RS) : Prop := ∀ e, s = .error e → e = 4 ∨ e = 5
theorem eo_ok (a : Nat) : ErrOk (.ok a) := fun e h => by cases h
theorem eo_bytes {xs : List UInt8} {n : Nat} {s : RS} (hs : ErrOk s) : ErrOk (rBytes xs n s).2 := fun _ h => rBytes_err hs h
theorem eo_byte {xs : List UInt8} {s : RS} (hs : ErrOk s) : ErrOk (rByte xs s).2 := eo_bytes hs
theorem eo_key {xs : List UInt8} {s : RS} (hs : ErrOk s) : ErrOk (rKey xs s).2 := eo_bytes hs
theorem eo_short {xs : List UInt8} {s : RS} (hs : ErrOk s) : ErrOk (rShort xs s).2 := by
  intro e h
  cases s with
  | error x => exact hs _ h
  | ok a =>
    rw [rShort_ok] at h
    split at h
    · cases h
    · rename_i h0
      simp only [Except.error.injEq] at h
      have := gs_err (xs.drop a) 0 0
      omega
theorem eo_list {xs : List UInt8} {s : RS} (hs : ErrOk s) : ErrOk (rList xs s).2 := eo_bytes (eo_short hs)
theorem eo_instr {xs : List UInt8} {s : RS} (hs : ErrOk s) : ErrOk (rInstr xs s).2 := eo_list (eo_list (eo_byte hs))
theorem eo_lookup {xs : List UInt8} {s : RS} (hs : ErrOk s) : ErrOk (rLookup xs s).2 := eo_list (eo_list (eo_key hs))
theorem eo_many {α : Type} {one : RS → α × RS} (h1 : ∀ s, ErrOk s → ErrOk (one s).2) : ∀ (n : Nat) (s : RS), ErrOk s → ErrOk (rMany one n s).2
  | 0, s, hs => hs
  | n + 1, .error e, hs => hs
  | n + 1, .ok a, hs => eo_many h1 n _ (h1 _ hs)
theorem eo_all {α : Type} {xs : List UInt8} {one : RS → α × RS} (h1 : ∀ s, ErrOk s → ErrOk (one s).2) {s : RS} (hs : ErrOk s) : ErrOk (rAll xs one s).2 := eo_many h1 _ _ (eo_short hs)
theorem eo_first {xs : List UInt8} {s : RS} (hs : ErrOk s) : ErrOk (rFirst xs s).2 := by
  have h1 : ErrOk (match (rByte xs s).2 with | .ok a => if 128 < (rByte xs s).1.toNat then (.error 4 : RS) else .ok a | .error e => .error e) := by
    intro e h
    cases h2 : (rByte xs s).2 with
    | error x => rw [h2] at h; simp only [Except.error.injEq] at h; subst h; exact eo_byte hs _ h2
    | ok a =>
      rw [h2] at h
      simp only at h
      split at h
      · simp only [Except.error.injEq] at h; omega
      · cases h
  unfold rFirst
  simp only
  split
  · exact eo_byte h1
  · exact h1
theorem rMsg_err {xs : List UInt8} {e : Int} (h : (rMsg xs (.ok 0)).2 = .error e) : e = 4 ∨ e = 5 := by
  have h1 : ErrOk (rAll xs (rInstr xs) (rKey xs (rAll xs (rKey xs) (rByte xs (rByte xs (rFirst xs (.ok 0)).2).2).2).2).2).2 := eo_all (fun s hs => eo_instr hs) (eo_key (eo_all (fun s hs => eo_key hs) (eo_byte (eo_byte (eo_first (eo_ok 0))))))
  unfold rMsg at h
  simp only at h
  split at h
  · exact eo_all (fun s hs => eo_lookup hs) h1 _ h
  · exact h1 _ h
theorem getF_err {xs : List UInt8} {c : MC} {t : Nat} {e : Int} (h : getF xs = (c, t, e)) (he : e ≠ 0) : c = zMC ∧ t = 0 ∧ (e = 4 ∨ e = 5) := by
  unfold getF at h
  cases h2 : (rMsg xs (.ok 0)).2 with
  | error x =>
    rw [h2] at h
    simp only [Prod.mk.injEq] at h
    obtain ⟨rfl, rfl, rfl⟩ := h
    exact ⟨rfl, rfl, rMsg_err h2⟩
  | ok a =>
    rw [h2] at h
    simp only [Prod.mk.injEq] at h
    exact absurd h.2.2.symm he

/-- these bytes stand next -/
theorem next_drop {xs p r : List UInt8} {a : Nat} (h : xs.drop a = p ++ r) : xs.drop (a + p.length) = r := by
  rw [← List.drop_drop, h, List.drop_left]
theorem give_bytes {xs p r : List UInt8} {a : Nat} (h : xs.drop a = p ++ r) : rBytes xs p.length (.ok a) = (p, .ok (a + p.length)) := by
  have hl := congrArg List.length h
  rw [List.length_drop, List.length_append] at hl
  rw [rBytes_ok, if_pos (by omega), h, List.take_left]
theorem give_byte {xs r : List UInt8} {x : UInt8} {a : Nat} (h : xs.drop a = x :: r) : rByte xs (.ok a) = (x, .ok (a + 1)) := by
  have h1 := give_bytes (p := [x]) (r := r) h
  unfold rByte
  rw [show (1 : Nat) = [x].length from rfl, h1]
  rfl
theorem give_short {xs r : List UInt8} {n a : Nat} (hn : n ≤ 65535) (h : xs.drop a = shortB n ++ r) : rShort xs (.ok a) = (n, .ok (a + (shortB n).length)) := by
  have h1 := gs_put n hn r
  have e1 : (rShort xs (.ok a)).1 = n := by
    show (gs (xs.drop a) 0 0).1.toNat = n
    rw [h, h1]; rfl
  have e2 : (rShort xs (.ok a)).2 = .ok (a + (shortB n).length) := by
    rw [rShort_ok, h, h1]; rfl
  exact Prod.ext e1 e2
theorem give_list {xs r l : List UInt8} {a : Nat} (hn : l.length ≤ 65535) (h : xs.drop a = listB l ++ r) : rList xs (.ok a) = (l, .ok (a + (listB l).length)) := by
  unfold listB at h ⊢
  rw [List.append_assoc] at h
  have h1 := give_short hn h
  have h2 := give_bytes (next_drop h)
  simp only [rList, h1, h2, List.length_append, Nat.add_assoc]
theorem give_key {xs r : List UInt8} {k : Vector UInt8 32} {a : Nat} (h : xs.drop a = k.toList ++ r) : rKey xs (.ok a) = (k, .ok (a + k.toList.length)) := by
  have h1 := give_bytes h
  have hl : k.toList.length = 32 := by simp
  rw [hl] at h1 ⊢
  simp only [rKey, h1, vecOf_toList]
def lensOk {α : Type} (x : α × List UInt8 × List UInt8) : Prop := x.2.1.length ≤ 65535 ∧ x.2.2.length ≤ 65535
theorem give_instr {xs r : List UInt8} {x : UInt8 × List UInt8 × List UInt8} {a : Nat} (hx : lensOk x) (h : xs.drop a = putI x ++ r) : rInstr xs (.ok a) = (x, .ok (a + (putI x).length)) := by
  obtain ⟨p, u, v⟩ := x
  unfold putI at h ⊢
  simp only [List.cons_append, List.append_assoc] at h
  have h1 := give_byte h
  have h2 := give_list hx.1 (next_drop (p := [p]) h)
  have h3 := give_list hx.2 (next_drop (next_drop (p := [p]) h))
  simp only [List.length_cons, List.length_nil, Nat.zero_add] at h2 h3
  simp only [rInstr, h1, h2, h3, List.length_cons, List.length_append]
  refine Prod.ext rfl (congrArg Except.ok ?_)
  show a + 1 + (listB u).length + (listB v).length = a + ((listB u).length + (listB v).length + 1)
  omega
theorem give_lookup {xs r : List UInt8} {x : Vector UInt8 32 × List UInt8 × List UInt8} {a : Nat} (hx : lensOk x) (h : xs.drop a = putL x ++ r) : rLookup xs (.ok a) = (x, .ok (a + (putL x).length)) := by
  obtain ⟨p, u, v⟩ := x
  unfold putL at h ⊢
  simp only [List.append_assoc] at h
  have h1 := give_key h
  have h2 := give_list hx.1 (next_drop h)
  have h3 := give_list hx.2 (next_drop (next_drop h))
  simp only [rLookup, h1, h2, h3, List.length_append]
  refine Prod.ext rfl (congrArg Except.ok ?_)
  show a + p.toList.length + (listB u).length + (listB v).length = a + (p.toList.length + ((listB u).length + (listB v).length))
  omega
theorem give_many {α : Type} {xs : List UInt8} {one : RS → α × RS} {put : α → List UInt8} {good : α → Prop} (h1 : ∀ (x : α) (a : Nat) (r : List UInt8), good x → xs.drop a = put x ++ r → one (.ok a) = (x, .ok (a + (put x).length))) :
    ∀ (l : List α) (a : Nat) (r : List UInt8), (∀ x ∈ l, good x) → xs.drop a = l.flatMap put ++ r → rMany one l.length (.ok a) = (l, .ok (a + (l.flatMap put).length))
  | [], a, r, _, _ => rfl
  | x :: l, a, r, hg, h => by
    rw [List.flatMap_cons, List.append_assoc] at h
    have h2 := h1 x a _ (hg x List.mem_cons_self) h
    have h3 := give_many h1 l _ r (fun y hy => hg y (List.mem_cons_of_mem _ hy)) (next_drop h)
    rw [List.length_cons, rMany_succ, h2, h3, List.flatMap_cons, List.length_append, Nat.add_assoc]
theorem give_all {α : Type} {xs r : List UInt8} {one : RS → α × RS} {put : α → List UInt8} {good : α → Prop} (h1 : ∀ (x : α) (a : Nat) (r : List UInt8), good x → xs.drop a = put x ++ r → one (.ok a) = (x, .ok (a + (put x).length)))
    {l : List α} {a : Nat} (hl : l.length ≤ 65535) (hg : ∀ x ∈ l, good x) (h : xs.drop a = (shortB l.length ++ l.flatMap put) ++ r) : rAll xs one (.ok a) = (l, .ok (a + (shortB l.length ++ l.flatMap put).length)) := by
  rw [List.append_assoc] at h
  have h2 := give_short hl h
  have h3 := give_many h1 l _ r hg (next_drop h)
  unfold rAll
  rw [h2, h3, List.length_append, Nat.add_assoc]
theorem lensOk_ins {c : MC} (h : mayF c = true) : ∀ x ∈ c.ins, lensOk x := by
  intro x hx
  obtain ⟨i, hi, rfl⟩ := List.getElem_of_mem hx
  exact (mayF_lens h).2.2.2.1 i hi
theorem lensOk_lks {c : MC} (h : mayF c = true) : ∀ x ∈ c.lks, lensOk x := by
  intro x hx
  obtain ⟨i, hi, rfl⟩ := List.getElem_of_mem hx
  exact (mayF_lens h).2.2.2.2 i hi
theorem give_first {xs r : List UInt8} {v : Bool} {x : UInt8} {a : Nat} (hv : v = false → x.toNat < 128) (h : xs.drop a = ((if v = true then ([128] : List UInt8) else []) ++ [x]) ++ r) : rFirst xs (.ok a) = ((x, v), .ok (a + ((if v = true then ([128] : List UInt8) else []) ++ [x]).length)) := by
  cases v with
  | true =>
    have h1 : rByte xs (.ok a) = (128, .ok (a + 1)) := give_byte (r := x :: r) h
    have h2 : rByte xs (.ok (a + 1)) = (x, .ok (a + 1 + 1)) := give_byte (next_drop (p := [128]) (r := x :: r) h)
    rw [rFirst_new (a := a + 1) (a' := a + 1 + 1) (by rw [h1]) (by rw [h1]; rfl) (by rw [h2]), h2]
    rfl
  | false =>
    have h1 : rByte xs (.ok a) = (x, .ok (a + 1)) := give_byte (r := r) h
    rw [rFirst_old (a := a + 1) (by rw [h1]) (by rw [h1]; exact hv rfl), h1]
    rfl
theorem give_msg {xs r : List UInt8} {c : MC} {a : Nat} (hm : mayF c = true) (h : xs.drop a = putF c ++ r) : rMsg xs (.ok a) = (c, .ok (a + (putF c).length)) := by
  obtain ⟨hk, hi, hl, _, _⟩ := mayF_lens hm
  have hv := fun hv => (mayF_v0 hm hv).2
  have hlen : (putF c).length = _ := congrArg List.length (putF_eq c)
  rw [hlen]
  rw [putF_eq] at h
  rw [List.append_assoc] at h
  have h0 := give_first hv h
  have d1 := next_drop h
  rw [List.append_assoc] at d1
  have h1 : rByte xs (.ok _) = _ := give_byte d1
  have d2 := next_drop d1
  rw [List.append_assoc] at d2
  have h2 : rByte xs (.ok _) = _ := give_byte d2
  have d3 := next_drop d2
  rw [List.append_assoc] at d3
  have h3 := give_all (one := rKey xs) (put := Vector.toList) (good := fun _ => True) (fun x a r _ h => give_key h) hk (fun _ _ => trivial) d3
  have d4 := next_drop d3
  rw [List.append_assoc] at d4
  have h4 := give_key d4
  have d5 := next_drop d4
  rw [List.append_assoc] at d5
  have h5 := give_all (one := rInstr xs) (put := putI) (good := lensOk) (fun x a r hx h => give_instr hx h) hi (lensOk_ins hm) d5
  have d6 := next_drop d5
  simp only [List.length_cons, List.length_nil, Nat.zero_add] at h1 h2 h3 h4 h5 d6
  cases hv0 : c.v0 with
  | false =>
    simp only [hv0, Bool.false_eq_true, if_false] at h0 h1 h2 h3 h4 h5
    simp only [rMsg, h0, h1, h2, h3, h4, h5, Bool.false_eq_true, if_false]
    refine Prod.ext ?_ (congrArg Except.ok ?_)
    · obtain ⟨v0, hh, ks, rc, is, ls⟩ := c
      simp only at hv0
      subst hv0
      have := (mayF_v0 hm rfl).1
      simp only at this
      subst this
      rfl
    · simp only [List.length_append, List.length_cons, List.length_nil]; omega
  | true =>
    simp only [hv0, if_true] at h0 h1 h2 h3 h4 h5 d6
    have h6 := give_all (one := rLookup xs) (put := putL) (good := lensOk) (fun x a r hx h => give_lookup hx h) hl (lensOk_lks hm) d6
    simp only [rMsg, h0, h1, h2, h3, h4, h5, h6, if_true]
    refine Prod.ext ?_ (congrArg Except.ok ?_)
    · obtain ⟨v0, hh, ks, rc, is, ls⟩ := c
      simp only at hv0
      subst hv0
      rfl
    · simp only [List.length_append, List.length_cons, List.length_nil]; omega
theorem getF_put {c : MC} (hm : mayF c = true) (r : List UInt8) : getF (putF c ++ r) = (c, (putF c).length, 0) := by
  have h := give_msg (xs := putF c ++ r) (r := r) (a := 0) hm rfl
  unfold getF
  rw [h]
  simp only [Nat.zero_add]
/-- what is cut short -/
def CutS (xs : List UInt8) (a : Nat) (p : List UInt8) : Prop := ∃ j, j < p.length ∧ xs.drop a = p.take j
theorem CutS.app {xs p q : List UInt8} {a : Nat} (h : CutS xs a (p ++ q)) : CutS xs a p ∨ ∃ r, xs.drop a = p ++ r ∧ CutS xs (a + p.length) q := by
  obtain ⟨j, hj, h⟩ := h
  rw [List.length_append] at hj
  by_cases hp : j < p.length
  · left
    exact ⟨j, hp, by rw [h, List.take_append_of_le_length (by omega)]⟩
  · right
    have h2 : xs.drop a = p ++ q.take (j - p.length) := by rw [h, List.take_append, List.take_of_length_le (by omega)]
    exact ⟨_, h2, j - p.length, by omega, next_drop h2⟩
theorem cut_bytes {xs p : List UInt8} {a : Nat} (h : CutS xs a p) : rBytes xs p.length (.ok a) = ([], .error 5) := by
  obtain ⟨j, hj, h⟩ := h
  have hl := congrArg List.length h
  rw [List.length_drop, List.length_take] at hl
  rw [rBytes_ok, if_neg (by omega)]
theorem cut_byte {xs : List UInt8} {x : UInt8} {a : Nat} (h : CutS xs a [x]) : (rByte xs (.ok a)).2 = .error 5 := by
  have h1 := cut_bytes h
  unfold rByte
  rw [show (1 : Nat) = [x].length from rfl, h1]
theorem cut_short {xs : List UInt8} {n a : Nat} (h : CutS xs a (shortB n)) : rShort xs (.ok a) = (0, .error 5) := by
  obtain ⟨j, hj, h⟩ := h
  have h1 := gs_cut n j hj
  have e1 : (rShort xs (.ok a)).1 = 0 := by
    show (gs (xs.drop a) 0 0).1.toNat = 0
    rw [h, h1]; rfl
  have e2 : (rShort xs (.ok a)).2 = .error 5 := by
    rw [rShort_ok, h, h1]; rfl
  exact Prod.ext e1 e2
theorem cut_list {xs l : List UInt8} {a : Nat} (hn : l.length ≤ 65535) (h : CutS xs a (listB l)) : (rList xs (.ok a)).2 = .error 5 := by
  unfold listB at h
  rcases h.app with h | ⟨r, h1, h2⟩
  · simp only [rList, cut_short h, rBytes_e]
  · simp only [rList, give_short hn h1, cut_bytes h2]
theorem cut_key {xs : List UInt8} {k : Vector UInt8 32} {a : Nat} (h : CutS xs a k.toList) : (rKey xs (.ok a)).2 = .error 5 := by
  have h1 := cut_bytes h
  rw [show k.toList.length = 32 by simp] at h1
  simp only [rKey, h1]
theorem cut_instr {xs : List UInt8} {x : UInt8 × List UInt8 × List UInt8} {a : Nat} (hx : lensOk x) (h : CutS xs a (putI x)) : (rInstr xs (.ok a)).2 = .error 5 := by
  obtain ⟨p, u, v⟩ := x
  have h : CutS xs a ([p] ++ (listB u ++ listB v)) := h
  rcases h.app with h | ⟨r, h1, h⟩
  · simp only [rInstr, cut_byte h, rList_e]
  · have g1 := give_byte h1
    rcases h.app with h | ⟨r, h2, h⟩
    · have g2 : (rList xs (.ok (a + 1))).2 = .error 5 := cut_list hx.1 h
      simp only [rInstr, g1, g2, rList_e]
    · have g2 : rList xs (.ok (a + 1)) = _ := give_list hx.1 h2
      have g3 := cut_list hx.2 h
      simp only [rInstr, g1, g2]; exact g3
theorem cut_lookup {xs : List UInt8} {x : Vector UInt8 32 × List UInt8 × List UInt8} {a : Nat} (hx : lensOk x) (h : CutS xs a (putL x)) : (rLookup xs (.ok a)).2 = .error 5 := by
  obtain ⟨p, u, v⟩ := x
  have h : CutS xs a (p.toList ++ (listB u ++ listB v)) := h
  rcases h.app with h | ⟨r, h1, h⟩
  · simp only [rLookup, cut_key h, rList_e]
  · have g1 := give_key h1
    rcases h.app with h | ⟨r, h2, h⟩
    · have g2 := cut_list hx.1 h
      simp only [rLookup, g1, g2, rList_e]
    · have g2 := give_list hx.1 h2
      have g3 := cut_list hx.2 h
      simp only [rLookup, g1, g2]; exact g3
theorem cut_many {α : Type} {xs : List UInt8} {one : RS → α × RS} {put : α → List UInt8} {good : α → Prop} (h1 : ∀ (x : α) (a : Nat) (r : List UInt8), good x → xs.drop a = put x ++ r → one (.ok a) = (x, .ok (a + (put x).length))) (h2 : ∀ (x : α) (a : Nat), good x → CutS xs a (put x) → (one (.ok a)).2 = .error 5) :
    ∀ (l : List α) (a : Nat), (∀ x ∈ l, good x) → CutS xs a (l.flatMap put) → (rMany one l.length (.ok a)).2 = .error 5
  | [], a, _, h => by obtain ⟨j, hj, _⟩ := h; simp at hj
  | x :: l, a, hg, h => by
    rw [List.flatMap_cons] at h
    rw [List.length_cons, rMany_succ]
    rcases h.app with h | ⟨r, h3, h⟩
    · rw [h2 x a (hg x List.mem_cons_self) h, rMany_e]
    · rw [h1 x a r (hg x List.mem_cons_self) h3]
      exact cut_many h1 h2 l _ (fun y hy => hg y (List.mem_cons_of_mem _ hy)) h
theorem cut_all {α : Type} {xs : List UInt8} {one : RS → α × RS} {put : α → List UInt8} {good : α → Prop} (h1 : ∀ (x : α) (a : Nat) (r : List UInt8), good x → xs.drop a = put x ++ r → one (.ok a) = (x, .ok (a + (put x).length))) (h2 : ∀ (x : α) (a : Nat), good x → CutS xs a (put x) → (one (.ok a)).2 = .error 5)
    {l : List α} {a : Nat} (hl : l.length ≤ 65535) (hg : ∀ x ∈ l, good x) (h : CutS xs a (shortB l.length ++ l.flatMap put)) : (rAll xs one (.ok a)).2 = .error 5 := by
  unfold rAll
  rcases h.app with h | ⟨r, h3, h⟩
  · rw [cut_short h, rMany_e]
  · rw [give_short hl h3]
    exact cut_many h1 h2 l _ hg h
theorem cut_first {xs : List UInt8} {v : Bool} {x : UInt8} {a : Nat} (h : CutS xs a ((if v = true then ([128] : List UInt8) else []) ++ [x])) : (rFirst xs (.ok a)).2 = .error 5 := by
  cases v with
  | true =>
    have h : CutS xs a ([128] ++ [x]) := h
    rcases h.app with h | ⟨r, h1, h⟩
    · exact rFirst_e1 (cut_byte h)
    · have g1 : rByte xs (.ok a) = (128, .ok (a + 1)) := give_byte h1
      exact rFirst_e3 (a := a + 1) (by rw [g1]) (by rw [g1]; rfl) (cut_byte h)
  | false => exact rFirst_e1 (cut_byte (x := x) h)
theorem cut_msg {xs : List UInt8} {c : MC} {a : Nat} (hm : mayF c = true) (h : CutS xs a (putF c)) : (rMsg xs (.ok a)).2 = .error 5 := by
  obtain ⟨hk, hi, hl, _, _⟩ := mayF_lens hm
  have hv := fun hv => (mayF_v0 hm hv).2
  rw [putF_eq] at h
  rcases h.app with h | ⟨r, d, h⟩
  · exact rMsg_e (cut_first h)
  have h0 := give_first hv d
  rcases h.app with h | ⟨r, d, h⟩
  · have g := cut_byte h
    simp only [rMsg, h0, g, rByte_e, rAll_e, rKey_e, ite_self]
  have h1 : rByte xs (.ok _) = _ := give_byte d
  simp only [List.length_cons, List.length_nil, Nat.zero_add] at h
  rcases h.app with h | ⟨r, d, h⟩
  · have g := cut_byte h
    simp only [rMsg, h0, h1, g, rByte_e, rAll_e, rKey_e, ite_self]
  have h2 : rByte xs (.ok _) = _ := give_byte d
  simp only [List.length_cons, List.length_nil, Nat.zero_add] at h
  rcases h.app with h | ⟨r, d, h⟩
  · have g := cut_all (one := rKey xs) (put := Vector.toList) (good := fun _ => True) (fun x a r _ h => give_key h) (fun x a _ h => cut_key h) hk (fun _ _ => trivial) h
    simp only [rMsg, h0, h1, h2, g, rByte_e, rAll_e, rKey_e, ite_self]
  have h3 := give_all (one := rKey xs) (put := Vector.toList) (good := fun _ => True) (fun x a r _ h => give_key h) hk (fun _ _ => trivial) d
  rcases h.app with h | ⟨r, d, h⟩
  · have g := cut_key h
    simp only [rMsg, h0, h1, h2, h3, g, rByte_e, rAll_e, rKey_e, ite_self]
  have h4 := give_key d
  rcases h.app with h | ⟨r, d, h⟩
  · have g := cut_all (one := rInstr xs) (put := putI) (good := lensOk) (fun x a r hx h => give_instr hx h) (fun x a hx h => cut_instr hx h) hi (lensOk_ins hm) h
    simp only [rMsg, h0, h1, h2, h3, h4, g, rByte_e, rAll_e, rKey_e, ite_self]
  have h5 := give_all (one := rInstr xs) (put := putI) (good := lensOk) (fun x a r hx h => give_instr hx h) hi (lensOk_ins hm) d
  cases hv0 : c.v0 with
  | false =>
    rw [hv0] at h
    obtain ⟨j, hj, _⟩ := h
    simp at hj
  | true =>
    simp only [hv0, if_true] at h
    have g := cut_all (one := rLookup xs) (put := putL) (good := lensOk) (fun x a r hx h => give_lookup hx h) (fun x a hx h => cut_lookup hx h) hl (lensOk_lks hm) h
    simp only [hv0, if_true] at h0 h1 h2 h3 h4 h5 g
    simp only [rMsg, h0, h1, h2, h3, h4, h5, g, if_true]
theorem getF_cut {c : MC} (hm : mayF c = true) {j : Nat} (hj : j < (putF c).length) : getF ((putF c).take j) = (zMC, 0, 5) := by
  have h := cut_msg (xs := (putF c).take j) (a := 0) hm ⟨j, hj, rfl⟩
  unfold getF
  rw [h]
theorem getF_only {xs : List UInt8} {c : MC} {t : Nat} (h : getF xs = (c, t, 0)) : mayF c = true ∧ putF c = xs.take t ∧ t ≤ xs.length ∧ 0 < t := by
  unfold getF at h
  cases h2 : (rMsg xs (.ok 0)).2 with
  | error e =>
    rw [h2] at h
    simp only [Prod.mk.injEq] at h
    have he := rMsg_err h2
    omega
  | ok a =>
    rw [h2] at h
    simp only [Prod.mk.injEq] at h
    obtain ⟨rfl, rfl, _⟩ := h
    obtain ⟨⟨h3, h4, h5⟩, h6⟩ := took_msg (Nat.zero_le _) h2
    refine ⟨h6, ?_, h3, ?_⟩
    · rw [List.drop_zero] at h5
      generalize putF (rMsg xs (.ok 0)).1 = P at h4 h5 ⊢
      have h7 := congrArg (List.take a) h5
      rw [h7, h4, Nat.zero_add, List.take_left]
    · rw [h4, putF_eq]; simp only [List.length_append, List.length_cons, List.length_nil]; omega

end Go.Fer
