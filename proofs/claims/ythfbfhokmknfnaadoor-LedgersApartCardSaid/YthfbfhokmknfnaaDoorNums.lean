/- Library, part 8 (numbers): what the operations on bits come to. No condition: plain laws. -/
import Derived.Test.YthfbfhokmknfnaaDoorFlow
set_option linter.all false
namespace Go.Fer
open Go Go.RowKit

theorem ofInt_nat (w n : Nat) : BitVec.ofInt w (n : Int) = BitVec.ofNat w n := by simp
theorem bits_or_i64 (a b : Nat) (ha : a < 9223372036854775808) (hb : b < 9223372036854775808) : bitsI .or .i64 a b = ((a ||| b : Nat) : Int) := by
  show IntKind.i64.wrap ((BitVec.ofInt 64 (a : Int) ||| BitVec.ofInt 64 (b : Int)).toNat : Int) = _
  have h : a ||| b < 2 ^ 63 := Nat.or_lt_two_pow ha hb
  simp only [ofInt_nat, BitVec.toNat_or, BitVec.toNat_ofNat]
  rw [Nat.mod_eq_of_lt (by omega), Nat.mod_eq_of_lt (by omega)]
  exact wrap_i64 (by omega)
theorem bits_or_u64 (a b : Nat) (ha : a < 18446744073709551616) (hb : b < 18446744073709551616) : bitsI .or .u64 a b = ((a ||| b : Nat) : Int) := by
  show IntKind.u64.wrap ((BitVec.ofInt 64 (a : Int) ||| BitVec.ofInt 64 (b : Int)).toNat : Int) = _
  have h : a ||| b < 2 ^ 64 := Nat.or_lt_two_pow ha hb
  simp only [ofInt_nat, BitVec.toNat_or, BitVec.toNat_ofNat]
  rw [Nat.mod_eq_of_lt (by omega), Nat.mod_eq_of_lt (by omega)]
  exact wrap_u64 (by omega)
theorem bits_and_i64 (a b : Nat) (ha : a < 9223372036854775808) (hb : b < 9223372036854775808) : bitsI .and .i64 a b = ((a &&& b : Nat) : Int) := by
  show IntKind.i64.wrap ((BitVec.ofInt 64 (a : Int) &&& BitVec.ofInt 64 (b : Int)).toNat : Int) = _
  have h : a &&& b ≤ a := Nat.and_le_left
  simp only [ofInt_nat, BitVec.toNat_and, BitVec.toNat_ofNat]
  rw [Nat.mod_eq_of_lt (by omega), Nat.mod_eq_of_lt (by omega)]
  exact wrap_i64 (by omega)
theorem bits_and_u64 (a b : Nat) (ha : a < 18446744073709551616) (hb : b < 18446744073709551616) : bitsI .and .u64 a b = ((a &&& b : Nat) : Int) := by
  show IntKind.u64.wrap ((BitVec.ofInt 64 (a : Int) &&& BitVec.ofInt 64 (b : Int)).toNat : Int) = _
  have h : a &&& b ≤ a := Nat.and_le_left
  simp only [ofInt_nat, BitVec.toNat_and, BitVec.toNat_ofNat]
  rw [Nat.mod_eq_of_lt (by omega), Nat.mod_eq_of_lt (by omega)]
  exact wrap_u64 (by omega)
theorem or_add_low (a m i : Nat) (h : a < 2 ^ i) : a ||| m * 2 ^ i = a + m * 2 ^ i := by
  have := Nat.two_pow_add_eq_or_of_lt h m
  rw [Nat.or_comm, Nat.mul_comm m, ← this]; omega
theorem andNot128 (c : UInt8) : bitsI .andNot .u8 (c.toNat : Int) 128 = ((c.toNat % 128 : Nat) : Int) := by
  have h : ∀ m : Fin 256, bitsI .andNot .u8 (m.val : Int) 128 = ((m.val % 128 : Nat) : Int) := by decide +kernel
  exact h ⟨c.toNat, c.toNat_lt⟩
theorem shl_i64 {a c : Int} {k : Nat} (hk : k < 64) (hc : a * 2 ^ k = c) (hb : -9223372036854775808 ≤ c ∧ c ≤ 9223372036854775807) : IntKind.i64.wrap (a * 2 ^ (min (Int.toNat (k : Int)) IntKind.i64.bits)) = c := by
  have : min (Int.toNat (k : Int)) IntKind.i64.bits = k := by simp [IntKind.bits]; omega
  rw [this, hc]; exact wrap_i64 hb
theorem shl_u64 {a c : Int} {k : Nat} (hk : k < 64) (hc : a * 2 ^ k = c) (hb : 0 ≤ c ∧ c ≤ 18446744073709551615) : IntKind.u64.wrap (a * 2 ^ (min (Int.toNat (k : Int)) IntKind.u64.bits)) = c := by
  have : min (Int.toNat (k : Int)) IntKind.u64.bits = k := by simp [IntKind.bits]; omega
  rw [this, hc]; exact wrap_u64 hb
theorem shr_nat {a k : Nat} {K : IntKind} (hk : k ≤ K.bits) : Int.fdiv (a : Int) (2 ^ (min (Int.toNat (k : Int)) K.bits)) = ((a / 2 ^ k : Nat) : Int) := by
  have : min (Int.toNat (k : Int)) K.bits = k := by simp; omega
  rw [this, Int.fdiv_eq_ediv_of_nonneg _ (by exact Int.le_of_lt (Int.pow_pos (by omega)))]
  simp
theorem u8_lt (c : UInt8) : c.toNat < 256 := c.toNat_lt
theorem u8_eq_of {a b : UInt8} (h : (a.toNat : Int) = b.toNat) : a = b := UInt8.toNat_inj.1 (by omega)
theorem u8_dec (a b : UInt8) : decide ((a.toNat : Int) = (b.toNat : Int)) = decide (a = b) := by
  by_cases h : a = b
  · subst h; simp
  · have : ¬ ((a.toNat : Int) = (b.toNat : Int)) := fun h2 => h (u8_eq_of h2)
    simp [h, this]
end Go.Fer
