/- words -/
import Derived.Test.YtoahabjkpnfneaaWides
set_option linter.all false
namespace Go.Fer
open Go Go.Proofs Go.RowKit

def l8 : ByteArray := ⟨#[0, 1, 2, 2, 3, 3, 3, 3, 4, 4, 4, 4, 4, 4, 4, 4, 5, 5, 5, 5, 5, 5, 5, 5, 5, 5, 5, 5, 5, 5, 5, 5, 6, 6, 6, 6, 6, 6, 6, 6, 6, 6, 6, 6, 6, 6, 6, 6, 6, 6, 6, 6, 6, 6, 6, 6, 6, 6, 6, 6, 6, 6, 6, 6, 7, 7, 7, 7, 7, 7, 7, 7, 7, 7, 7, 7, 7, 7, 7, 7, 7, 7, 7, 7, 7, 7, 7, 7, 7, 7, 7, 7, 7, 7, 7, 7, 7, 7, 7, 7, 7, 7, 7, 7, 7, 7, 7, 7, 7, 7, 7, 7, 7, 7, 7, 7, 7, 7, 7, 7, 7, 7, 7, 7, 7, 7, 7, 7, 8, 8, 8, 8, 8, 8, 8, 8, 8, 8, 8, 8, 8, 8, 8, 8, 8, 8, 8, 8, 8, 8, 8, 8, 8, 8, 8, 8, 8, 8, 8, 8, 8, 8, 8, 8, 8, 8, 8, 8, 8, 8, 8, 8, 8, 8, 8, 8, 8, 8, 8, 8, 8, 8, 8, 8, 8, 8, 8, 8, 8, 8, 8, 8, 8, 8, 8, 8, 8, 8, 8, 8, 8, 8, 8, 8, 8, 8, 8, 8, 8, 8, 8, 8, 8, 8, 8, 8, 8, 8, 8, 8, 8, 8, 8, 8, 8, 8, 8, 8, 8, 8, 8, 8, 8, 8, 8, 8, 8, 8, 8, 8, 8, 8, 8, 8, 8, 8, 8, 8, 8, 8, 8, 8, 8, 8, 8, 8]⟩
set_option maxRecDepth 100000 in
theorem l8_get (i : Nat) (h : i < 256) : l8[i]? = some (UInt8.ofNat (bitLen i)) := by
  have h1 : ∀ j : Fin 256, l8[j.val]? = some (UInt8.ofNat (bitLen j.val)) := by decide +kernel
  exact h1 ⟨i, h⟩
theorem bl8 {i : Nat} (h : i < 256) : ((UInt8.ofNat (bitLen i)).toNat : Int) = ((bitLen i : Nat) : Int) := by
  have := bitLen_le8 i h
  rw [UInt8.toNat_ofNat']; omega
theorem norm_s {d : Nat} (h0 : d ≠ 0) (h : d < 18446744073709551616) : 64 - bitLen d < 64 ∧ d * 2 ^ (64 - bitLen d) < 18446744073709551616 ∧ 9223372036854775808 ≤ d * 2 ^ (64 - bitLen d) ∧ bitLen d ≤ 64 := by
  obtain ⟨h1, h2⟩ := bitLen_spec d
  have h2 := h2 h0
  have hb : bitLen d ≤ 64 := by
    rcases Nat.lt_or_ge 64 (bitLen d) with h3 | h3
    · have := Nat.pow_le_pow_right (show 0 < 2 by decide) (show 64 ≤ bitLen d - 1 by omega)
      omega
    · exact h3
  have hp : 1 ≤ bitLen d := by
    rcases Nat.eq_zero_or_pos (bitLen d) with h3 | h3
    · rw [h3] at h1; omega
    · exact h3
  have hq : 0 < 2 ^ (64 - bitLen d) := Nat.two_pow_pos _
  refine ⟨by omega, ?_, ?_, hb⟩
  · have := (Nat.mul_lt_mul_right hq).2 h1
    rw [← Nat.pow_add, show bitLen d + (64 - bitLen d) = 64 by omega] at this
    exact this
  · have := Nat.mul_le_mul_right (2 ^ (64 - bitLen d)) h2
    rw [← Nat.pow_add, show bitLen d - 1 + (64 - bitLen d) = 63 by omega] at this
    exact this
theorem nshr32 {a : Nat} : Int.fdiv (a : Int) (2 ^ (min (Int.toNat 32) IntKind.u64.bits)) = ((a / 4294967296 : Nat) : Int) := nshr (a := a) (k := 32) (by omega)
theorem ncast {a b : Nat} (h : a = b) : (a : Int) = (b : Int) := by rw [h]

instance : StrT Try.prog 9 := ⟨Try.underlying9⟩

instance : StrT Try.prog 10 := ⟨Try.underlying10⟩

instance : StrT Try.prog 11 := ⟨Try.underlying11⟩

theorem mul64_ok (w0 : World) (x y : Nat) (hx : x < 18446744073709551616) (hy : y < 18446744073709551616) : Ret Try.prog 24 #[.int .u64 ((x : Nat) : Int), .int .u64 ((y : Nat) : Int)] w0 (fun u w' => u = .tuple #[.int .u64 ((x * y / 18446744073709551616 : Nat) : Int), .int .u64 ((x * y % 18446744073709551616 : Nat) : Int)] ∧ Bel w0 w') := by
  refine Ret.enter (args := [.int .u64 ((x : Nat) : Int), .int .u64 ((y : Nat) : Int)]) Try.func24 rfl Try.ntmps24 Try.results24 rfl ?_
  have hS := St.start w0
  obtain ⟨h1, h2, h3, h4, h5, h6, h7, h8, h9⟩ := mulHi hx hy
  refine WC.seq (fun K1 hK1 => ?_)
  refine WC.region ?_
  refine WL.op rfl (opW.assignI rfl ?_)
  refine WL.op rfl (opW.assignI rfl ?_)
  refine WL.nil ?_
  refine thenQ_n (hK1 _ _ ?_)
  refine WC.seq (fun K2 hK2 => ?_)
  refine WC.region ?_
  refine WL.op rfl (opW.moveI rfl ?_)
  refine WL.op rfl (opW.and rfl rfl (nand32 hx) ?_)
  refine WL.op rfl (opW.assignI rfl ?_)
  refine WL.nil ?_
  refine thenQ_n (hK2 _ _ ?_)
  refine WC.seq (fun K3 hK3 => ?_)
  refine WC.region ?_
  refine WL.op rfl (opW.moveI rfl ?_)
  refine WL.op rfl (opW.shr rfl rfl (by omega) (nshr32) ?_)
  refine WL.op rfl (opW.assignI rfl ?_)
  refine WL.nil ?_
  refine thenQ_n (hK3 _ _ ?_)
  refine WC.seq (fun K4 hK4 => ?_)
  refine WC.region ?_
  refine WL.op rfl (opW.moveI rfl ?_)
  refine WL.op rfl (opW.and rfl rfl (nand32 hy) ?_)
  refine WL.op rfl (opW.assignI rfl ?_)
  refine WL.nil ?_
  refine thenQ_n (hK4 _ _ ?_)
  refine WC.seq (fun K5 hK5 => ?_)
  refine WC.region ?_
  refine WL.op rfl (opW.moveI rfl ?_)
  refine WL.op rfl (opW.shr rfl rfl (by omega) (nshr32) ?_)
  refine WL.op rfl (opW.assignI rfl ?_)
  refine WL.nil ?_
  refine thenQ_n (hK5 _ _ ?_)
  refine WC.seq (fun K6 hK6 => ?_)
  refine WC.region ?_
  refine WL.op rfl (opW.moveI rfl ?_)
  refine WL.op rfl (opW.moveI rfl ?_)
  refine WL.op rfl (opW.mul rfl rfl (nmul h1) ?_)
  refine WL.op rfl (opW.assignI rfl ?_)
  refine WL.nil ?_
  refine thenQ_n (hK6 _ _ ?_)
  refine WC.seq (fun K7 hK7 => ?_)
  refine WC.region ?_
  refine WL.op rfl (opW.moveI rfl ?_)
  refine WL.op rfl (opW.moveI rfl ?_)
  refine WL.op rfl (opW.mul rfl rfl (nmul h2) ?_)
  refine WL.op rfl (opW.moveI rfl ?_)
  refine WL.op rfl (opW.shr rfl rfl (by omega) (nshr32) ?_)
  refine WL.op rfl (opW.add rfl rfl (nadd h5) ?_)
  refine WL.op rfl (opW.assignI rfl ?_)
  refine WL.nil ?_
  refine thenQ_n (hK7 _ _ ?_)
  refine WC.seq (fun K8 hK8 => ?_)
  refine WC.region ?_
  refine WL.op rfl (opW.moveI rfl ?_)
  refine WL.op rfl (opW.and rfl rfl (nand32 h5) ?_)
  refine WL.op rfl (opW.assignI rfl ?_)
  refine WL.nil ?_
  refine thenQ_n (hK8 _ _ ?_)
  refine WC.seq (fun K9 hK9 => ?_)
  refine WC.region ?_
  refine WL.op rfl (opW.moveI rfl ?_)
  refine WL.op rfl (opW.shr rfl rfl (by omega) (nshr32) ?_)
  refine WL.op rfl (opW.assignI rfl ?_)
  refine WL.nil ?_
  refine thenQ_n (hK9 _ _ ?_)
  refine WC.seq (fun K10 hK10 => ?_)
  refine WC.region ?_
  refine WL.op rfl (opW.moveI rfl ?_)
  refine WL.op rfl (opW.moveI rfl ?_)
  refine WL.op rfl (opW.moveI rfl ?_)
  refine WL.op rfl (opW.mul rfl rfl (nmul h3) ?_)
  refine WL.op rfl (opW.add rfl rfl (nadd h6) ?_)
  refine WL.op rfl (opW.assignI rfl ?_)
  refine WL.nil ?_
  refine thenQ_n (hK10 _ _ ?_)
  refine WC.seq (fun K11 hK11 => ?_)
  refine WC.region ?_
  refine WL.op rfl (opW.moveI rfl ?_)
  refine WL.op rfl (opW.moveI rfl ?_)
  refine WL.op rfl (opW.mul rfl rfl (nmul h4) ?_)
  refine WL.op rfl (opW.moveI rfl ?_)
  refine WL.op rfl (opW.add rfl rfl (nadd h7) ?_)
  refine WL.op rfl (opW.moveI rfl ?_)
  refine WL.op rfl (opW.shr rfl rfl (by omega) (nshr32) ?_)
  refine WL.op rfl (opW.add rfl rfl ((nadd h8).trans (ncast h9)) ?_)
  refine WL.op rfl (opW.assignI rfl ?_)
  refine WL.nil ?_
  refine thenQ_n (hK11 _ _ ?_)
  refine WC.seq (fun K12 hK12 => ?_)
  refine WC.region ?_
  refine WL.op rfl (opW.moveI rfl ?_)
  refine WL.op rfl (opW.moveI rfl ?_)
  refine WL.op rfl (opW.mul rfl rfl (nmulM x y) ?_)
  refine WL.op rfl (opW.assignI rfl ?_)
  refine WL.nil ?_
  refine thenQ_n (hK12 _ _ ?_)
  refine WC.ret ?_
  refine bodyQ_ret (.tmpI rfl (.tmpI rfl .nil)) ?_
  exact ⟨rfl, hS.old⟩

theorem len64_ok (w0 : World) (x : Nat) (hx : x < 18446744073709551616) : Ret Try.prog 27 #[.int .u64 ((x : Nat) : Int)] w0 (fun u w' => u = .int .i64 ((bitLen x : Nat) : Int) ∧ Bel w0 w') := by
  refine Ret.enter (args := [.int .u64 ((x : Nat) : Int)]) Try.func27 rfl Try.ntmps27 Try.results27 rfl ?_
  have hS := St.start w0
  refine WC.seq (fun K1 hK1 => ?_)
  refine WC.region ?_
  refine WL.op rfl (opW.assignI rfl ?_)
  refine WL.nil ?_
  refine thenQ_n (hK1 _ _ ?_)
  refine WC.mid (fun f w => ∃ z n : Nat, Fits [(0, .int .u64 ((z : Nat) : Int)), (2, .int .i64 ((n : Nat) : Int))] f ∧ St w0 [] w ∧ bitLen x = n + bitLen z ∧ z < 4294967296 ∧ n ≤ 32) ?_ ?_
  ·
    refine WC.seq (fun K2 hK2 => ?_)
    refine WC.region ?_
    refine WL.op rfl (opW.moveI rfl ?_)
    refine WL.op rfl (opW.geq rfl rfl ?_)
    refine WL.nil ?_
    refine thenQ_n (hK2 _ _ ?_)
    refine WC.cond _ rfl (fun hc0 => ?_) (fun hc0 => ?_)
    ·
      have hr0 := hc0
      try simp only [decide_eq_true_eq, decide_eq_false_iff_not, Bool.and_eq_true, Bool.or_eq_true, Bool.and_eq_false_iff, Bool.or_eq_false_iff, Bool.not_eq_true', Bool.not_eq_false', Int.not_lt, Int.not_le] at hc0
      refine WC.seq (fun K3 hK3 => ?_)
      refine WC.region ?_
      refine WL.op rfl (opW.moveI rfl ?_)
      refine WL.op rfl (opW.shr rfl rfl (by omega) (nshr (k := 32) (by omega)) ?_)
      refine WL.op rfl (opW.assignI rfl ?_)
      refine WL.nil ?_
      refine thenQ_n (hK3 _ _ ?_)
      refine WC.region ?_
      refine WL.op rfl (opW.assignI rfl ?_)
      refine WL.nil ?_
      refine thenQ_n ?_
      first | exact ⟨x / 2 ^ 32, 32 , ⟨rfl, congrArg (Value.int .i64) (by omega), trivial⟩, hS, (by have := bitLen_shift x 32 (by have : 0 < x / 2 ^ 32 := Nat.div_pos (by omega) (by decide); omega); omega), by omega, by omega⟩ | exact ⟨x, 0, ⟨rfl, congrArg (Value.int .i64) (by omega), trivial⟩, hS, by omega, by omega, by omega⟩
    ·
      have hr0 := hc0
      try simp only [decide_eq_true_eq, decide_eq_false_iff_not, Bool.and_eq_true, Bool.or_eq_true, Bool.and_eq_false_iff, Bool.or_eq_false_iff, Bool.not_eq_true', Bool.not_eq_false', Int.not_lt, Int.not_le] at hc0
      refine WC.skip ?_
      refine thenQ_n ?_
      first | exact ⟨x / 2 ^ 32, 32 , ⟨rfl, congrArg (Value.int .i64) (by omega), trivial⟩, hS, (by have := bitLen_shift x 32 (by have : 0 < x / 2 ^ 32 := Nat.div_pos (by omega) (by decide); omega); omega), by omega, by omega⟩ | exact ⟨x, 0, ⟨rfl, congrArg (Value.int .i64) (by omega), trivial⟩, hS, by omega, by omega, by omega⟩
  ·
    rintro f w ⟨z, n, hfit, hS, hbl, hz, hn⟩
    refine WC.fits _ hfit (fun g => ?_)
    clear hfit
    refine WC.mid (fun f w => ∃ z n : Nat, Fits [(0, .int .u64 ((z : Nat) : Int)), (2, .int .i64 ((n : Nat) : Int))] f ∧ St w0 [] w ∧ bitLen x = n + bitLen z ∧ z < 65536 ∧ n ≤ 48) ?_ ?_
    ·
      refine WC.seq (fun K4 hK4 => ?_)
      refine WC.region ?_
      refine WL.op rfl (opW.moveI rfl ?_)
      refine WL.op rfl (opW.geq rfl rfl ?_)
      refine WL.nil ?_
      refine thenQ_n (hK4 _ _ ?_)
      refine WC.cond _ rfl (fun hc1 => ?_) (fun hc1 => ?_)
      ·
        have hr1 := hc1
        try simp only [decide_eq_true_eq, decide_eq_false_iff_not, Bool.and_eq_true, Bool.or_eq_true, Bool.and_eq_false_iff, Bool.or_eq_false_iff, Bool.not_eq_true', Bool.not_eq_false', Int.not_lt, Int.not_le] at hc1
        refine WC.seq (fun K5 hK5 => ?_)
        refine WC.region ?_
        refine WL.op rfl (opW.moveI rfl ?_)
        refine WL.op rfl (opW.shr rfl rfl (by omega) (nshr (k := 16) (by omega)) ?_)
        refine WL.op rfl (opW.assignI rfl ?_)
        refine WL.nil ?_
        refine thenQ_n (hK5 _ _ ?_)
        refine WC.region ?_
        refine WL.op rfl (opW.moveI rfl ?_)
        refine WL.op rfl (opW.add rfl rfl (wrap_i64 (by omega)) ?_)
        refine WL.op rfl (opW.assignI rfl ?_)
        refine WL.nil ?_
        refine thenQ_n ?_
        first | exact ⟨z / 2 ^ 16, n + 16 , ⟨rfl, congrArg (Value.int .i64) (by omega), trivial⟩, hS, (by have := bitLen_shift z 16 (by have : 0 < z / 2 ^ 16 := Nat.div_pos (by omega) (by decide); omega); omega), by omega, by omega⟩ | exact ⟨z, n, ⟨rfl, congrArg (Value.int .i64) (by omega), trivial⟩, hS, by omega, by omega, by omega⟩
      ·
        have hr1 := hc1
        try simp only [decide_eq_true_eq, decide_eq_false_iff_not, Bool.and_eq_true, Bool.or_eq_true, Bool.and_eq_false_iff, Bool.or_eq_false_iff, Bool.not_eq_true', Bool.not_eq_false', Int.not_lt, Int.not_le] at hc1
        refine WC.skip ?_
        refine thenQ_n ?_
        first | exact ⟨z / 2 ^ 16, n + 16 , ⟨rfl, congrArg (Value.int .i64) (by omega), trivial⟩, hS, (by have := bitLen_shift z 16 (by have : 0 < z / 2 ^ 16 := Nat.div_pos (by omega) (by decide); omega); omega), by omega, by omega⟩ | exact ⟨z, n, ⟨rfl, congrArg (Value.int .i64) (by omega), trivial⟩, hS, by omega, by omega, by omega⟩
    ·
      rintro f w ⟨z, n, hfit, hS, hbl, hz, hn⟩
      refine WC.fits _ hfit (fun g => ?_)
      clear hfit
      refine WC.mid (fun f w => ∃ z n : Nat, Fits [(0, .int .u64 ((z : Nat) : Int)), (2, .int .i64 ((n : Nat) : Int))] f ∧ St w0 [] w ∧ bitLen x = n + bitLen z ∧ z < 256 ∧ n ≤ 56) ?_ ?_
      ·
        refine WC.seq (fun K6 hK6 => ?_)
        refine WC.region ?_
        refine WL.op rfl (opW.moveI rfl ?_)
        refine WL.op rfl (opW.geq rfl rfl ?_)
        refine WL.nil ?_
        refine thenQ_n (hK6 _ _ ?_)
        refine WC.cond _ rfl (fun hc2 => ?_) (fun hc2 => ?_)
        ·
          have hr2 := hc2
          try simp only [decide_eq_true_eq, decide_eq_false_iff_not, Bool.and_eq_true, Bool.or_eq_true, Bool.and_eq_false_iff, Bool.or_eq_false_iff, Bool.not_eq_true', Bool.not_eq_false', Int.not_lt, Int.not_le] at hc2
          refine WC.seq (fun K7 hK7 => ?_)
          refine WC.region ?_
          refine WL.op rfl (opW.moveI rfl ?_)
          refine WL.op rfl (opW.shr rfl rfl (by omega) (nshr (k := 8) (by omega)) ?_)
          refine WL.op rfl (opW.assignI rfl ?_)
          refine WL.nil ?_
          refine thenQ_n (hK7 _ _ ?_)
          refine WC.region ?_
          refine WL.op rfl (opW.moveI rfl ?_)
          refine WL.op rfl (opW.add rfl rfl (wrap_i64 (by omega)) ?_)
          refine WL.op rfl (opW.assignI rfl ?_)
          refine WL.nil ?_
          refine thenQ_n ?_
          first | exact ⟨z / 2 ^ 8, n + 8 , ⟨rfl, congrArg (Value.int .i64) (by omega), trivial⟩, hS, (by have := bitLen_shift z 8 (by have : 0 < z / 2 ^ 8 := Nat.div_pos (by omega) (by decide); omega); omega), by omega, by omega⟩ | exact ⟨z, n, ⟨rfl, congrArg (Value.int .i64) (by omega), trivial⟩, hS, by omega, by omega, by omega⟩
        ·
          have hr2 := hc2
          try simp only [decide_eq_true_eq, decide_eq_false_iff_not, Bool.and_eq_true, Bool.or_eq_true, Bool.and_eq_false_iff, Bool.or_eq_false_iff, Bool.not_eq_true', Bool.not_eq_false', Int.not_lt, Int.not_le] at hc2
          refine WC.skip ?_
          refine thenQ_n ?_
          first | exact ⟨z / 2 ^ 8, n + 8 , ⟨rfl, congrArg (Value.int .i64) (by omega), trivial⟩, hS, (by have := bitLen_shift z 8 (by have : 0 < z / 2 ^ 8 := Nat.div_pos (by omega) (by decide); omega); omega), by omega, by omega⟩ | exact ⟨z, n, ⟨rfl, congrArg (Value.int .i64) (by omega), trivial⟩, hS, by omega, by omega, by omega⟩
      ·
        rintro f w ⟨z, n, hfit, hS, hbl, hz, hn⟩
        refine WC.fits _ hfit (fun g => ?_)
        clear hfit
        refine WC.seq (fun K8 hK8 => ?_)
        refine WC.region ?_
        refine WL.op rfl (opW.moveI rfl ?_)
        refine WL.op rfl (opW.moveI rfl ?_)
        refine WL.op rfl (opW.conv rfl (wrap_u8 (by omega)) ?_)
        refine WL.op rfl (opW.idxStr (s := l8) (i := z) rfl rfl (l8_get z hz) ?_)
        refine WL.op rfl (opW.conv rfl (show IntKind.i64.wrap _ = ((bitLen z : Nat) : Int) from by rw [bl8 hz]; exact wrap_i64 (by have := bitLen_le8 z hz; omega)) ?_)
        refine WL.op rfl (opW.add rfl rfl (show IntKind.i64.wrap _ = ((bitLen x : Nat) : Int) from by have := bitLen_le8 z hz; rw [hbl]; exact (wrap_i64 (by omega)).trans (Int.natCast_add _ _).symm) ?_)
        refine WL.op rfl (opW.assignI rfl ?_)
        refine WL.nil ?_
        refine thenQ_n (hK8 _ _ ?_)
        refine WC.ret ?_
        refine bodyQ_ret (.tmpI rfl .nil) ?_
        exact ⟨rfl, hS.old⟩

theorem lz64_ok (w0 : World) (x : Nat) (hx : x < 18446744073709551616) (hb : bitLen x ≤ 64) : Ret Try.prog 25 #[.int .u64 ((x : Nat) : Int)] w0 (fun u w' => u = .int .i64 ((64 - bitLen x : Nat) : Int) ∧ Bel w0 w') := by
  refine Ret.enter (args := [.int .u64 ((x : Nat) : Int)]) Try.func25 rfl Try.ntmps25 Try.results25 rfl ?_
  have hS := St.start w0
  refine WC.seq (fun K1 hK1 => ?_)
  refine WC.region ?_
  refine WL.op rfl (opW.assignI rfl ?_)
  refine WL.nil ?_
  refine thenQ_n (hK1 _ _ ?_)
  refine WC.seq (fun K2 hK2 => ?_)
  refine WC.region ?_
  refine WL.op rfl (opW.moveI rfl ?_)
  refine WL.op rfl (opW.call (len64_ok _ x hx) rfl ?_)
  rintro _ w ⟨rfl, hw⟩; replace hS := hS.bel hw
  refine WL.op rfl (opW.sub rfl rfl (show IntKind.i64.wrap _ = ((64 - bitLen x : Nat) : Int) from (wrap_i64 (by omega)).trans (by omega)) ?_)
  refine WL.op rfl (opW.assignI rfl ?_)
  refine WL.nil ?_
  refine thenQ_n (hK2 _ _ ?_)
  refine WC.ret ?_
  refine bodyQ_ret (.tmpI rfl .nil) ?_
  exact ⟨rfl, hS.old⟩

theorem div64_ok (w0 : World) (hi lo d : Nat) (hh : hi < d) (hl : lo < 18446744073709551616) (hd : d < 18446744073709551616) : Ret Try.prog 21 #[.int .u64 ((hi : Nat) : Int), .int .u64 ((lo : Nat) : Int), .int .u64 ((d : Nat) : Int)] w0 (fun u w' => u = .tuple #[.int .u64 (((hi * 18446744073709551616 + lo) / d : Nat) : Int), .int .u64 (((hi * 18446744073709551616 + lo) % d : Nat) : Int)] ∧ Bel w0 w') := by
  refine Ret.enter (args := [.int .u64 ((hi : Nat) : Int), .int .u64 ((lo : Nat) : Int), .int .u64 ((d : Nat) : Int)]) Try.func21 rfl Try.ntmps21 Try.results21 rfl ?_
  have hS := St.start w0
  refine WC.seq (fun K1 hK1 => ?_)
  refine WC.region ?_
  refine WL.op rfl (opW.assignI rfl ?_)
  refine WL.op rfl (opW.assignI rfl ?_)
  refine WL.nil ?_
  refine thenQ_n (hK1 _ _ ?_)
  refine WC.seq (fun K2 hK2 => ?_)
  refine WC.seq (fun K3 hK3 => ?_)
  refine WC.region ?_
  refine WL.op rfl (opW.moveI rfl ?_)
  refine WL.op rfl (opW.eql rfl rfl ?_)
  refine WL.nil ?_
  refine thenQ_n (hK3 _ _ ?_)
  refine WC.cond _ rfl (fun hc0 => ?_) (fun hc0 => ?_)
  ·
    have hr0 := hc0
    try simp only [decide_eq_true_eq, decide_eq_false_iff_not, Bool.and_eq_true, Bool.or_eq_true, Bool.and_eq_false_iff, Bool.or_eq_false_iff, Bool.not_eq_true', Bool.not_eq_false', Int.not_lt, Int.not_le] at hc0
    simp only [decide_eq_true_eq] at hr0
    omega
  ·
    have hr0 := hc0
    try simp only [decide_eq_true_eq, decide_eq_false_iff_not, Bool.and_eq_true, Bool.or_eq_true, Bool.and_eq_false_iff, Bool.or_eq_false_iff, Bool.not_eq_true', Bool.not_eq_false', Int.not_lt, Int.not_le] at hc0
    refine WC.skip ?_
    refine thenQ_n (hK2 _ _ ?_)
    refine WC.seq (fun K4 hK4 => ?_)
    refine WC.seq (fun K5 hK5 => ?_)
    refine WC.region ?_
    refine WL.op rfl (opW.moveI rfl ?_)
    refine WL.op rfl (opW.moveI rfl ?_)
    refine WL.op rfl (opW.leq rfl rfl ?_)
    refine WL.nil ?_
    refine thenQ_n (hK5 _ _ ?_)
    refine WC.cond _ rfl (fun hc1 => ?_) (fun hc1 => ?_)
    ·
      have hr1 := hc1
      try simp only [decide_eq_true_eq, decide_eq_false_iff_not, Bool.and_eq_true, Bool.or_eq_true, Bool.and_eq_false_iff, Bool.or_eq_false_iff, Bool.not_eq_true', Bool.not_eq_false', Int.not_lt, Int.not_le] at hc1
      simp only [decide_eq_true_eq] at hr1
      omega
    ·
      have hr1 := hc1
      try simp only [decide_eq_true_eq, decide_eq_false_iff_not, Bool.and_eq_true, Bool.or_eq_true, Bool.and_eq_false_iff, Bool.or_eq_false_iff, Bool.not_eq_true', Bool.not_eq_false', Int.not_lt, Int.not_le] at hc1
      refine WC.skip ?_
      refine thenQ_n (hK4 _ _ ?_)
      refine WC.seq (fun K6 hK6 => ?_)
      refine WC.seq (fun K7 hK7 => ?_)
      refine WC.region ?_
      refine WL.op rfl (opW.moveI rfl ?_)
      refine WL.op rfl (opW.eql rfl rfl ?_)
      refine WL.nil ?_
      refine thenQ_n (hK7 _ _ ?_)
      refine WC.cond _ rfl (fun hc2 => ?_) (fun hc2 => ?_)
      ·
        have hr2 := hc2
        try simp only [decide_eq_true_eq, decide_eq_false_iff_not, Bool.and_eq_true, Bool.or_eq_true, Bool.and_eq_false_iff, Bool.or_eq_false_iff, Bool.not_eq_true', Bool.not_eq_false', Int.not_lt, Int.not_le] at hc2
        obtain rfl : hi = 0 := by omega
        refine WC.seq (fun K8 hK8 => ?_)
        refine WC.draw 8 (.look 0 (.look 1 (.look 2 (.look 3 (.look 4 (.look 5 (.look 6 (.look 7 .nil)))))))) (by kernel_rfl) (fun _ _ _ h => h) (fun w1 hw1 => ?_)
        replace hS := hS.bel hw1
        have hS1 := hS
        have hT := St.start w1
        refine ML.look rfl rfl rfl (fun w hw => (by have hS := hS1.bel hw; exact opW.moveI rfl ⟨rfl, rfl⟩)) ?_
        refine ML.look rfl rfl rfl (fun w hw => (by have hS := hS1.bel hw; exact opW.moveI rfl ⟨rfl, rfl⟩)) ?_
        refine ML.look rfl rfl rfl (fun w hw => (by have hS := hS1.bel hw; exact opW.quo rfl rfl (by omega) (nquo hl) ⟨rfl, rfl⟩)) ?_
        refine ML.look rfl rfl rfl (fun w hw => (by have hS := hS1.bel hw; exact opW.moveI rfl ⟨rfl, rfl⟩)) ?_
        refine ML.look rfl rfl rfl (fun w hw => (by have hS := hS1.bel hw; exact opW.moveI rfl ⟨rfl, rfl⟩)) ?_
        refine ML.look rfl rfl rfl (fun w hw => (by have hS := hS1.bel hw; exact opW.rem rfl rfl (by omega) (tmod_nat _ _) ⟨rfl, rfl⟩)) ?_
        refine ML.look rfl rfl rfl (fun w hw => (by have hS := hS1.bel hw; exact opW.assignI rfl ⟨rfl, rfl⟩)) ?_
        refine ML.look rfl rfl rfl (fun w hw => (by have hS := hS1.bel hw; exact opW.assignI rfl ⟨rfl, rfl⟩)) ?_
        refine ML.nil ?_
        refine thenQ_n (hK8 _ _ ?_)
        refine WC.ret ?_
        refine thenQ_r ?_
        refine bodyQ_ret (.tmpI rfl (.tmpI rfl .nil)) ?_
        refine ⟨?_, hS.old⟩
        rw [Nat.zero_mul, Nat.zero_add]
        rfl
      ·
        have hr2 := hc2
        try simp only [decide_eq_true_eq, decide_eq_false_iff_not, Bool.and_eq_true, Bool.or_eq_true, Bool.and_eq_false_iff, Bool.or_eq_false_iff, Bool.not_eq_true', Bool.not_eq_false', Int.not_lt, Int.not_le] at hc2
        obtain ⟨s, hs0⟩ : ∃ s, s = 64 - bitLen d := ⟨_, rfl⟩
        obtain ⟨hs, hds, hdb, hbl⟩ := norm_s (d := d) (by omega) hd
        rw [← hs0] at hs hds hdb
        obtain ⟨hUd, hlow⟩ := div_U hs hh hl
        obtain ⟨y, hy⟩ : ∃ y, y = d * 2 ^ s := ⟨_, rfl⟩
        obtain ⟨U, hU⟩ : ∃ U, U = hi * 2 ^ s + lo / 2 ^ (64 - s) := ⟨_, rfl⟩
        obtain ⟨W, hW⟩ : ∃ W, W = lo * 2 ^ s % 18446744073709551616 := ⟨_, rfl⟩
        obtain ⟨v1, hv1⟩ : ∃ v, v = y / 4294967296 := ⟨_, rfl⟩
        obtain ⟨v0, hv0⟩ : ∃ v, v = y % 4294967296 := ⟨_, rfl⟩
        obtain ⟨n1, hn1⟩ : ∃ v, v = W / 4294967296 := ⟨_, rfl⟩
        obtain ⟨n0, hn0⟩ : ∃ v, v = W % 4294967296 := ⟨_, rfl⟩
        obtain ⟨Q1, hQ1⟩ : ∃ q, q = (U * 4294967296 + n1) / y := ⟨_, rfl⟩
        obtain ⟨R1, hR1⟩ : ∃ q, q = (U * 4294967296 + n1) % y := ⟨_, rfl⟩
        obtain ⟨Q0, hQ0⟩ : ∃ q, q = (R1 * 4294967296 + n0) / y := ⟨_, rfl⟩
        obtain ⟨R0, hR0⟩ : ∃ q, q = (R1 * 4294967296 + n0) % y := ⟨_, rfl⟩
        have hfin := div_two (Q1 := Q1) (R1 := R1) (Q0 := Q0) (R0 := R0) hs hds hh hl hU hW (by rw [hQ1, hn1, hy]) (by rw [hR1, hn1, hy]) (by rw [hQ0, hn0, hy]) (by rw [hR0, hn0, hy])
        have hyM : y < 18446744073709551616 := hy ▸ hds
        have hyb : 9223372036854775808 ≤ y := hy ▸ hdb
        have hUy : U < y := by rw [hU, hy]; exact hUd
        have hhs : hi * 2 ^ s + lo / 2 ^ (64 - s) < 18446744073709551616 := by rw [← hU]; omega
        have hyv : y = v1 * 4294967296 + v0 := by omega
        have hv1p : 2147483648 ≤ v1 ∧ v1 < 4294967296 := by omega
        have hv0l : v0 < 4294967296 := by omega
        have hWM : W < 18446744073709551616 := by rw [hW]; exact Nat.mod_lt _ (by decide)
        have hn1l : n1 < 4294967296 := by omega
        have hn0l : n0 < 4294967296 := by omega
        have hR1y : R1 < y := by rw [hR1]; exact Nat.mod_lt _ (by omega)
        have hQ1l : Q1 < 4294967296 := by rw [hQ1]; exact dig_lt hUy hn1l
        have hQ0l : Q0 < 4294967296 := by rw [hQ0]; exact dig_lt hR1y hn0l
        have hUv : U < v1 * 4294967296 + v0 := by rw [← hyv]; exact hUy
        have hRv : R1 < v1 * 4294967296 + v0 := by rw [← hyv]; exact hR1y
        have hQ1v : Q1 = (U * 4294967296 + n1) / (v1 * 4294967296 + v0) := by rw [← hyv]; exact hQ1
        have hQ0v : Q0 = (R1 * 4294967296 + n0) / (v1 * 4294967296 + v0) := by rw [← hyv]; exact hQ0
        clear hUd
        refine WC.skip ?_
        refine thenQ_n (hK6 _ _ ?_)
        refine WC.seq (fun K9 hK9 => ?_)
        refine WC.region ?_
        refine WL.op rfl (opW.moveI rfl ?_)
        refine WL.op rfl (opW.call (lz64_ok _ d hd hbl) rfl ?_)
        rintro _ w ⟨rfl, hw⟩; replace hS := hS.bel hw
        rw [← hs0]
        refine WL.op rfl (opW.conv rfl (wrap_u64 (by omega)) ?_)
        refine WL.op rfl (opW.assignI rfl ?_)
        refine WL.nil ?_
        refine thenQ_n (hK9 _ _ ?_)
        refine WC.seq (fun K10 hK10 => ?_)
        refine WC.region ?_
        refine WL.op rfl (opW.moveI rfl ?_)
        refine WL.op rfl (opW.moveI rfl ?_)
        refine WL.op rfl (opW.shl rfl rfl (by omega) ((nshl hs hds).trans (ncast hy.symm)) ?_)
        refine WL.op rfl (opW.assignI rfl ?_)
        refine WL.nil ?_
        refine thenQ_n (hK10 _ _ ?_)
        refine WC.seq (fun K11 hK11 => ?_)
        refine WC.region ?_
        refine WL.op rfl (opW.moveI rfl ?_)
        refine WL.op rfl (opW.shr rfl rfl (by omega) ((nshr32).trans (ncast hv1.symm)) ?_)
        refine WL.op rfl (opW.assignI rfl ?_)
        refine WL.nil ?_
        refine thenQ_n (hK11 _ _ ?_)
        refine WC.seq (fun K12 hK12 => ?_)
        refine WC.region ?_
        refine WL.op rfl (opW.moveI rfl ?_)
        refine WL.op rfl (opW.and rfl rfl ((nand32 hyM).trans (ncast hv0.symm)) ?_)
        refine WL.op rfl (opW.assignI rfl ?_)
        refine WL.nil ?_
        refine thenQ_n (hK12 _ _ ?_)
        refine WC.seq (fun K13 hK13 => ?_)
        refine WC.region ?_
        refine WL.op rfl (opW.moveI rfl ?_)
        refine WL.op rfl (opW.moveI rfl ?_)
        refine WL.op rfl (opW.shl rfl rfl (by omega) (nshl hs (Nat.lt_of_le_of_lt (Nat.le_add_right _ _) hhs)) ?_)
        refine WL.op rfl (opW.moveI rfl ?_)
        refine WL.op rfl (opW.moveI rfl ?_)
        refine WL.op rfl (opW.sub rfl rfl (nsub (a := 64) (b := s) (by omega) (by omega)) ?_)
        refine WL.op rfl (opW.shr rfl rfl (by omega) (nshr (k := 64 - s) (by omega)) ?_)
        refine WL.op rfl (opW.or rfl rfl ((nor (k := s) hlow hhs).trans (ncast hU.symm)) ?_)
        refine WL.op rfl (opW.assignI rfl ?_)
        refine WL.nil ?_
        refine thenQ_n (hK13 _ _ ?_)
        refine WC.seq (fun K14 hK14 => ?_)
        refine WC.region ?_
        refine WL.op rfl (opW.moveI rfl ?_)
        refine WL.op rfl (opW.moveI rfl ?_)
        refine WL.op rfl (opW.shl rfl rfl (by omega) ((nshlM hs).trans (ncast hW.symm)) ?_)
        refine WL.op rfl (opW.assignI rfl ?_)
        refine WL.nil ?_
        refine thenQ_n (hK14 _ _ ?_)
        refine WC.seq (fun K15 hK15 => ?_)
        refine WC.region ?_
        refine WL.op rfl (opW.moveI rfl ?_)
        refine WL.op rfl (opW.shr rfl rfl (by omega) ((nshr32).trans (ncast hn1.symm)) ?_)
        refine WL.op rfl (opW.assignI rfl ?_)
        refine WL.nil ?_
        refine thenQ_n (hK15 _ _ ?_)
        refine WC.seq (fun K16 hK16 => ?_)
        refine WC.region ?_
        refine WL.op rfl (opW.moveI rfl ?_)
        refine WL.op rfl (opW.and rfl rfl ((nand32 hWM).trans (ncast hn0.symm)) ?_)
        refine WL.op rfl (opW.assignI rfl ?_)
        refine WL.nil ?_
        refine thenQ_n (hK16 _ _ ?_)
        refine WC.seq (fun K17 hK17 => ?_)
        refine WC.region ?_
        refine WL.op rfl (opW.moveI rfl ?_)
        refine WL.op rfl (opW.moveI rfl ?_)
        refine WL.op rfl (opW.quo rfl rfl (by omega) (nquo (show U < 18446744073709551616 by omega)) ?_)
        refine WL.op rfl (opW.assignI rfl ?_)
        refine WL.nil ?_
        refine thenQ_n (hK17 _ _ ?_)
        refine WC.seq (fun K18 hK18 => ?_)
        refine WC.region ?_
        refine WL.op rfl (opW.moveI rfl ?_)
        refine WL.op rfl (opW.moveI rfl ?_)
        refine WL.op rfl (opW.moveI rfl ?_)
        refine WL.op rfl (opW.mul rfl rfl (nmul (Nat.lt_of_le_of_lt (Nat.div_mul_le_self _ _) (show U < 18446744073709551616 by omega))) ?_)
        refine WL.op rfl (opW.sub rfl rfl (nsub (Nat.div_mul_le_self _ _) (show U < 18446744073709551616 by omega)) ?_)
        refine WL.op rfl (opW.assignI rfl ?_)
        refine WL.nil ?_
        refine thenQ_n (hK18 _ _ ?_)
        refine WC.mid (fun f w =>  Fits [(2, .int .u64 ((y : Nat) : Int)), (8, .int .u64 ((s : Nat) : Int)), (9, .int .u64 ((v1 : Nat) : Int)), (10, .int .u64 ((v0 : Nat) : Int)), (11, .int .u64 ((U : Nat) : Int)), (13, .int .u64 ((n1 : Nat) : Int)), (14, .int .u64 ((n0 : Nat) : Int)), (15, .int .u64 ((Q1 : Nat) : Int))] f ∧ St w0 [] w) ?_ ?_
        ·
          refine WC.block ?_
          refine WC.loop (fun m f w => ∃ q r : Nat, Fits [(2, .int .u64 ((y : Nat) : Int)), (8, .int .u64 ((s : Nat) : Int)), (9, .int .u64 ((v1 : Nat) : Int)), (10, .int .u64 ((v0 : Nat) : Int)), (11, .int .u64 ((U : Nat) : Int)), (13, .int .u64 ((n1 : Nat) : Int)), (14, .int .u64 ((n0 : Nat) : Int)), (15, .int .u64 ((q : Nat) : Int)), (16, .int .u64 ((r : Nat) : Int))] f ∧ St w0 [] w ∧ U = q * v1 + r ∧ Q1 ≤ q ∧ r < 4294967296 ∧ m = q ∧ q < 18446744073709551616) (U / v1) ?_ ?_
          ·
            refine ⟨U / v1, U - U / v1 * v1, ⟨rfl, rfl, rfl, rfl, rfl, rfl, rfl, rfl, rfl, trivial⟩, hS, ?_, ?_, ?_, rfl, ?_⟩
            · have := Nat.div_mul_le_self U v1; omega
            · rw [hQ1v]; exact dig_start (un := n1) (by omega) (by omega)
            · have h9 := Nat.mod_lt U (show 0 < v1 by omega)
              have h8 := Nat.div_add_mod' U v1
              omega
            · have := Nat.div_le_self U v1; omega
          ·
            rintro m f w ⟨q, r, hfit, hS, hqr, hQq, hrB, hm, hqM⟩
            refine WC.fits _ hfit (fun g => ?_)
            clear hfit
            refine WC.seq (fun K19 hK19 => ?_)
            refine WC.seq (fun K20 hK20 => ?_)
            refine WC.region ?_
            refine WL.op rfl (opW.moveI rfl ?_)
            refine WL.op rfl (opW.geq rfl rfl ?_)
            refine WL.op rfl (opW.moveB rfl ?_)
            cases hcs69 : (decide ((4294967296 : Int) ≤ (q : Int))) with
            | true =>
              refine WL.gF 69 rfl rfl rfl rfl ?_
              refine WL.gF 69 rfl rfl rfl rfl ?_
              refine WL.gF 69 rfl rfl rfl rfl ?_
              refine WL.gF 69 rfl rfl rfl rfl ?_
              refine WL.gF 69 rfl rfl rfl rfl ?_
              refine WL.gF 69 rfl rfl rfl rfl ?_
              refine WL.gF 69 rfl rfl rfl rfl ?_
              refine WL.gF 69 rfl rfl rfl rfl ?_
              refine WL.op rfl (opW.pickT rfl rfl ?_)
              refine WL.nil ?_
              refine thenQ_n (hK20 _ _ ?_)
              refine WC.cond _ rfl (fun hc3 => ?_) (fun hc3 => ?_)
              ·
                have hr3 := hc3
                try simp only [decide_eq_true_eq, decide_eq_false_iff_not, Bool.and_eq_true, Bool.or_eq_true, Bool.and_eq_false_iff, Bool.or_eq_false_iff, Bool.not_eq_true', Bool.not_eq_false', Int.not_lt, Int.not_le] at hc3
                obtain ⟨hQ2, hq1⟩ := dig_dec (un := n1) hUv (by omega) hqr (by rw [← hQ1v]; exact hQq) (.inl (by have := of_decide_eq_true hcs69; omega))
                rw [← hQ1v] at hQ2
                have hq2 : U = (q - 1) * v1 + (r + v1) := by
                  rw [hqr]
                  have : q * v1 = (q - 1) * v1 + v1 := by rw [← Nat.succ_mul]; congr 1; omega
                  omega
                refine WC.skip ?_
                refine thenQ_n (hK19 _ _ ?_)
                refine WC.block ?_
                refine WC.seq (fun K21 hK21 => ?_)
                refine WC.region ?_
                refine WL.op rfl (opW.moveI rfl ?_)
                refine WL.op rfl (opW.sub rfl rfl (nsub (b := 1) (by omega) hqM) ?_)
                refine WL.op rfl (opW.assignI rfl ?_)
                refine WL.nil ?_
                refine thenQ_n (hK21 _ _ ?_)
                refine WC.seq (fun K22 hK22 => ?_)
                refine WC.region ?_
                refine WL.op rfl (opW.moveI rfl ?_)
                refine WL.op rfl (opW.moveI rfl ?_)
                refine WL.op rfl (opW.add rfl rfl (nadd (by omega)) ?_)
                refine WL.op rfl (opW.assignI rfl ?_)
                refine WL.nil ?_
                refine thenQ_n (hK22 _ _ ?_)
                refine WC.seq (fun K23 hK23 => ?_)
                refine WC.region ?_
                refine WL.op rfl (opW.moveI rfl ?_)
                refine WL.op rfl (opW.geq rfl rfl ?_)
                refine WL.nil ?_
                refine thenQ_n (hK23 _ _ ?_)
                refine WC.cond _ rfl (fun hc4 => ?_) (fun hc4 => ?_)
                ·
                  have hr4 := hc4
                  try simp only [decide_eq_true_eq, decide_eq_false_iff_not, Bool.and_eq_true, Bool.or_eq_true, Bool.and_eq_false_iff, Bool.or_eq_false_iff, Bool.not_eq_true', Bool.not_eq_false', Int.not_lt, Int.not_le] at hc4
                  refine WC.exit ?_
                  refine blockQ_miss rfl ?_
                  refine thenQ_e ?_
                  refine blockQ_hit ?_
                  refine thenQ_n ?_
                  first | exact ⟨⟨rfl, rfl, rfl, rfl, rfl, rfl, rfl, congrArg (fun i : Nat => Value.int .u64 (i : Int)) ((dig_done (un := n1) hUv hq2 (by rw [← hQ1v]; exact hQ2) (dig_break (un := n1) hv0l (by omega) hUv hq2 (by omega))).trans hQ1v.symm), trivial⟩, hS⟩ | exact ⟨⟨rfl, rfl, rfl, rfl, rfl, rfl, rfl, congrArg (fun i : Nat => Value.int .u64 (i : Int)) ((dig_done (un := n1) hUv hqr (by rw [← hQ1v]; exact hQq) (by omega)).trans hQ1v.symm), trivial⟩, hS⟩
                ·
                  have hr4 := hc4
                  try simp only [decide_eq_true_eq, decide_eq_false_iff_not, Bool.and_eq_true, Bool.or_eq_true, Bool.and_eq_false_iff, Bool.or_eq_false_iff, Bool.not_eq_true', Bool.not_eq_false', Int.not_lt, Int.not_le] at hc4
                  refine WC.skip ?_
                  refine blockQ_n ?_
                  refine thenQ_n ?_
                  exact ⟨q - 1, by omega, q - 1, r + v1, ⟨rfl, rfl, rfl, rfl, rfl, rfl, rfl, rfl, rfl, trivial⟩, hS, hq2, hQ2, by omega, rfl, by omega⟩
              ·
                have hr3 := hc3
                try simp only [decide_eq_true_eq, decide_eq_false_iff_not, Bool.and_eq_true, Bool.or_eq_true, Bool.and_eq_false_iff, Bool.or_eq_false_iff, Bool.not_eq_true', Bool.not_eq_false', Int.not_lt, Int.not_le] at hc3
                simp at hr3
            | false =>
              refine WL.gT 69 rfl rfl rfl (WL.op rfl (opW.moveI rfl ?_))
              refine WL.gT 69 rfl rfl rfl (WL.op rfl (opW.moveI rfl ?_))
              refine WL.gT 69 rfl rfl rfl (WL.op rfl (opW.mul rfl rfl (nmul (Nat.lt_of_le_of_lt (Nat.mul_le_mul (show q ≤ 4294967295 by have := of_decide_eq_false hcs69; omega) (show v0 ≤ 4294967295 by omega)) (by decide))) ?_))
              refine WL.gT 69 rfl rfl rfl (WL.op rfl (opW.moveI rfl ?_))
              refine WL.gT 69 rfl rfl rfl (WL.op rfl (opW.mul rfl rfl (nmul (a := 4294967296) (by omega)) ?_))
              refine WL.gT 69 rfl rfl rfl (WL.op rfl (opW.moveI rfl ?_))
              refine WL.gT 69 rfl rfl rfl (WL.op rfl (opW.add rfl rfl (nadd (by omega)) ?_))
              refine WL.gT 69 rfl rfl rfl (WL.op rfl (opW.gtr rfl rfl ?_))
              refine WL.op rfl (opW.pickT rfl rfl ?_)
              refine WL.nil ?_
              refine thenQ_n (hK20 _ _ ?_)
              refine WC.cond _ rfl (fun hc3 => ?_) (fun hc3 => ?_)
              ·
                have hr3 := hc3
                try simp only [decide_eq_true_eq, decide_eq_false_iff_not, Bool.and_eq_true, Bool.or_eq_true, Bool.and_eq_false_iff, Bool.or_eq_false_iff, Bool.not_eq_true', Bool.not_eq_false', Int.not_lt, Int.not_le] at hc3
                obtain ⟨hQ2, hq1⟩ := dig_dec (un := n1) hUv (by omega) hqr (by rw [← hQ1v]; exact hQq) (.inr (by have := hr3; simp only [decide_eq_true_eq] at this; omega))
                rw [← hQ1v] at hQ2
                have hq2 : U = (q - 1) * v1 + (r + v1) := by
                  rw [hqr]
                  have : q * v1 = (q - 1) * v1 + v1 := by rw [← Nat.succ_mul]; congr 1; omega
                  omega
                refine WC.skip ?_
                refine thenQ_n (hK19 _ _ ?_)
                refine WC.block ?_
                refine WC.seq (fun K24 hK24 => ?_)
                refine WC.region ?_
                refine WL.op rfl (opW.moveI rfl ?_)
                refine WL.op rfl (opW.sub rfl rfl (nsub (b := 1) (by omega) hqM) ?_)
                refine WL.op rfl (opW.assignI rfl ?_)
                refine WL.nil ?_
                refine thenQ_n (hK24 _ _ ?_)
                refine WC.seq (fun K25 hK25 => ?_)
                refine WC.region ?_
                refine WL.op rfl (opW.moveI rfl ?_)
                refine WL.op rfl (opW.moveI rfl ?_)
                refine WL.op rfl (opW.add rfl rfl (nadd (by omega)) ?_)
                refine WL.op rfl (opW.assignI rfl ?_)
                refine WL.nil ?_
                refine thenQ_n (hK25 _ _ ?_)
                refine WC.seq (fun K26 hK26 => ?_)
                refine WC.region ?_
                refine WL.op rfl (opW.moveI rfl ?_)
                refine WL.op rfl (opW.geq rfl rfl ?_)
                refine WL.nil ?_
                refine thenQ_n (hK26 _ _ ?_)
                refine WC.cond _ rfl (fun hc4 => ?_) (fun hc4 => ?_)
                ·
                  have hr4 := hc4
                  try simp only [decide_eq_true_eq, decide_eq_false_iff_not, Bool.and_eq_true, Bool.or_eq_true, Bool.and_eq_false_iff, Bool.or_eq_false_iff, Bool.not_eq_true', Bool.not_eq_false', Int.not_lt, Int.not_le] at hc4
                  refine WC.exit ?_
                  refine blockQ_miss rfl ?_
                  refine thenQ_e ?_
                  refine blockQ_hit ?_
                  refine thenQ_n ?_
                  first | exact ⟨⟨rfl, rfl, rfl, rfl, rfl, rfl, rfl, congrArg (fun i : Nat => Value.int .u64 (i : Int)) ((dig_done (un := n1) hUv hq2 (by rw [← hQ1v]; exact hQ2) (dig_break (un := n1) hv0l (by omega) hUv hq2 (by omega))).trans hQ1v.symm), trivial⟩, hS⟩ | exact ⟨⟨rfl, rfl, rfl, rfl, rfl, rfl, rfl, congrArg (fun i : Nat => Value.int .u64 (i : Int)) ((dig_done (un := n1) hUv hqr (by rw [← hQ1v]; exact hQq) (by omega)).trans hQ1v.symm), trivial⟩, hS⟩
                ·
                  have hr4 := hc4
                  try simp only [decide_eq_true_eq, decide_eq_false_iff_not, Bool.and_eq_true, Bool.or_eq_true, Bool.and_eq_false_iff, Bool.or_eq_false_iff, Bool.not_eq_true', Bool.not_eq_false', Int.not_lt, Int.not_le] at hc4
                  refine WC.skip ?_
                  refine blockQ_n ?_
                  refine thenQ_n ?_
                  exact ⟨q - 1, by omega, q - 1, r + v1, ⟨rfl, rfl, rfl, rfl, rfl, rfl, rfl, rfl, rfl, trivial⟩, hS, hq2, hQ2, by omega, rfl, by omega⟩
              ·
                have hr3 := hc3
                try simp only [decide_eq_true_eq, decide_eq_false_iff_not, Bool.and_eq_true, Bool.or_eq_true, Bool.and_eq_false_iff, Bool.or_eq_false_iff, Bool.not_eq_true', Bool.not_eq_false', Int.not_lt, Int.not_le] at hc3
                refine WC.exit ?_
                refine thenQ_e ?_
                refine thenQ_e ?_
                refine blockQ_hit ?_
                refine thenQ_n ?_
                first | exact ⟨⟨rfl, rfl, rfl, rfl, rfl, rfl, rfl, congrArg (fun i : Nat => Value.int .u64 (i : Int)) ((dig_done (un := n1) hUv hq2 (by rw [← hQ1v]; exact hQ2) (dig_break (un := n1) hv0l (by omega) hUv hq2 (by omega))).trans hQ1v.symm), trivial⟩, hS⟩ | exact ⟨⟨rfl, rfl, rfl, rfl, rfl, rfl, rfl, congrArg (fun i : Nat => Value.int .u64 (i : Int)) ((dig_done (un := n1) hUv hqr (by rw [← hQ1v]; exact hQq) (by omega)).trans hQ1v.symm), trivial⟩, hS⟩
        ·
          rintro f w ⟨hfit, hS⟩
          refine WC.fits _ hfit (fun g => ?_)
          clear hfit
          refine WC.seq (fun K27 hK27 => ?_)
          refine WC.region ?_
          refine WL.op rfl (opW.moveI rfl ?_)
          refine WL.op rfl (opW.mul rfl rfl (nmulM U 4294967296) ?_)
          refine WL.op rfl (opW.moveI rfl ?_)
          refine WL.op rfl (opW.add rfl rfl (wrap_u64_add _ _) ?_)
          refine WL.op rfl (opW.moveI rfl ?_)
          refine WL.op rfl (opW.moveI rfl ?_)
          refine WL.op rfl (opW.mul rfl rfl (nmulM Q1 y) ?_)
          refine WL.op rfl (opW.sub rfl rfl ((nsubM _ _ (by have := Nat.mod_lt (Q1 * y) (show 0 < 18446744073709551616 by decide); omega)).trans (ncast (b := R1) (by rw [hQ1, hR1]; exact dig_rest hyM hUy))) ?_)
          refine WL.op rfl (opW.assignI rfl ?_)
          refine WL.nil ?_
          refine thenQ_n (hK27 _ _ ?_)
          refine WC.seq (fun K28 hK28 => ?_)
          refine WC.region ?_
          refine WL.op rfl (opW.moveI rfl ?_)
          refine WL.op rfl (opW.moveI rfl ?_)
          refine WL.op rfl (opW.quo rfl rfl (by omega) (nquo (show R1 < 18446744073709551616 by omega)) ?_)
          refine WL.op rfl (opW.assignI rfl ?_)
          refine WL.nil ?_
          refine thenQ_n (hK28 _ _ ?_)
          refine WC.seq (fun K29 hK29 => ?_)
          refine WC.region ?_
          refine WL.op rfl (opW.moveI rfl ?_)
          refine WL.op rfl (opW.moveI rfl ?_)
          refine WL.op rfl (opW.moveI rfl ?_)
          refine WL.op rfl (opW.mul rfl rfl (nmul (Nat.lt_of_le_of_lt (Nat.div_mul_le_self _ _) (show R1 < 18446744073709551616 by omega))) ?_)
          refine WL.op rfl (opW.sub rfl rfl (nsub (Nat.div_mul_le_self _ _) (show R1 < 18446744073709551616 by omega)) ?_)
          refine WL.op rfl (opW.assignI rfl ?_)
          refine WL.nil ?_
          refine thenQ_n (hK29 _ _ ?_)
          refine WC.mid (fun f w =>  Fits [(2, .int .u64 ((y : Nat) : Int)), (8, .int .u64 ((s : Nat) : Int)), (14, .int .u64 ((n0 : Nat) : Int)), (15, .int .u64 ((Q1 : Nat) : Int)), (17, .int .u64 ((R1 : Nat) : Int)), (18, .int .u64 ((Q0 : Nat) : Int))] f ∧ St w0 [] w) ?_ ?_
          ·
            refine WC.block ?_
            refine WC.loop (fun m f w => ∃ q r : Nat, Fits [(2, .int .u64 ((y : Nat) : Int)), (8, .int .u64 ((s : Nat) : Int)), (9, .int .u64 ((v1 : Nat) : Int)), (10, .int .u64 ((v0 : Nat) : Int)), (14, .int .u64 ((n0 : Nat) : Int)), (15, .int .u64 ((Q1 : Nat) : Int)), (16, .int .u64 ((r : Nat) : Int)), (17, .int .u64 ((R1 : Nat) : Int)), (18, .int .u64 ((q : Nat) : Int))] f ∧ St w0 [] w ∧ R1 = q * v1 + r ∧ Q0 ≤ q ∧ r < 4294967296 ∧ m = q ∧ q < 18446744073709551616) (R1 / v1) ?_ ?_
            ·
              refine ⟨R1 / v1, R1 - R1 / v1 * v1, ⟨rfl, rfl, rfl, rfl, rfl, rfl, rfl, rfl, rfl, trivial⟩, hS, ?_, ?_, ?_, rfl, ?_⟩
              · have := Nat.div_mul_le_self R1 v1; omega
              · rw [hQ0v]; exact dig_start (un := n0) (by omega) (by omega)
              · have h9 := Nat.mod_lt R1 (show 0 < v1 by omega)
                have h8 := Nat.div_add_mod' R1 v1
                omega
              · have := Nat.div_le_self R1 v1; omega
            ·
              rintro m f w ⟨q, r, hfit, hS, hqr, hQq, hrB, hm, hqM⟩
              refine WC.fits _ hfit (fun g => ?_)
              clear hfit
              refine WC.seq (fun K30 hK30 => ?_)
              refine WC.seq (fun K31 hK31 => ?_)
              refine WC.region ?_
              refine WL.op rfl (opW.moveI rfl ?_)
              refine WL.op rfl (opW.geq rfl rfl ?_)
              refine WL.op rfl (opW.moveB rfl ?_)
              cases hcs104 : (decide ((4294967296 : Int) ≤ (q : Int))) with
              | true =>
                refine WL.gF 104 rfl rfl rfl rfl ?_
                refine WL.gF 104 rfl rfl rfl rfl ?_
                refine WL.gF 104 rfl rfl rfl rfl ?_
                refine WL.gF 104 rfl rfl rfl rfl ?_
                refine WL.gF 104 rfl rfl rfl rfl ?_
                refine WL.gF 104 rfl rfl rfl rfl ?_
                refine WL.gF 104 rfl rfl rfl rfl ?_
                refine WL.gF 104 rfl rfl rfl rfl ?_
                refine WL.op rfl (opW.pickT rfl rfl ?_)
                refine WL.nil ?_
                refine thenQ_n (hK31 _ _ ?_)
                refine WC.cond _ rfl (fun hc5 => ?_) (fun hc5 => ?_)
                ·
                  have hr5 := hc5
                  try simp only [decide_eq_true_eq, decide_eq_false_iff_not, Bool.and_eq_true, Bool.or_eq_true, Bool.and_eq_false_iff, Bool.or_eq_false_iff, Bool.not_eq_true', Bool.not_eq_false', Int.not_lt, Int.not_le] at hc5
                  obtain ⟨hQ2, hq1⟩ := dig_dec (un := n0) hRv (by omega) hqr (by rw [← hQ0v]; exact hQq) (.inl (by have := of_decide_eq_true hcs104; omega))
                  rw [← hQ0v] at hQ2
                  have hq2 : R1 = (q - 1) * v1 + (r + v1) := by
                    rw [hqr]
                    have : q * v1 = (q - 1) * v1 + v1 := by rw [← Nat.succ_mul]; congr 1; omega
                    omega
                  refine WC.skip ?_
                  refine thenQ_n (hK30 _ _ ?_)
                  refine WC.block ?_
                  refine WC.seq (fun K32 hK32 => ?_)
                  refine WC.region ?_
                  refine WL.op rfl (opW.moveI rfl ?_)
                  refine WL.op rfl (opW.sub rfl rfl (nsub (b := 1) (by omega) hqM) ?_)
                  refine WL.op rfl (opW.assignI rfl ?_)
                  refine WL.nil ?_
                  refine thenQ_n (hK32 _ _ ?_)
                  refine WC.seq (fun K33 hK33 => ?_)
                  refine WC.region ?_
                  refine WL.op rfl (opW.moveI rfl ?_)
                  refine WL.op rfl (opW.moveI rfl ?_)
                  refine WL.op rfl (opW.add rfl rfl (nadd (by omega)) ?_)
                  refine WL.op rfl (opW.assignI rfl ?_)
                  refine WL.nil ?_
                  refine thenQ_n (hK33 _ _ ?_)
                  refine WC.seq (fun K34 hK34 => ?_)
                  refine WC.region ?_
                  refine WL.op rfl (opW.moveI rfl ?_)
                  refine WL.op rfl (opW.geq rfl rfl ?_)
                  refine WL.nil ?_
                  refine thenQ_n (hK34 _ _ ?_)
                  refine WC.cond _ rfl (fun hc6 => ?_) (fun hc6 => ?_)
                  ·
                    have hr6 := hc6
                    try simp only [decide_eq_true_eq, decide_eq_false_iff_not, Bool.and_eq_true, Bool.or_eq_true, Bool.and_eq_false_iff, Bool.or_eq_false_iff, Bool.not_eq_true', Bool.not_eq_false', Int.not_lt, Int.not_le] at hc6
                    refine WC.exit ?_
                    refine blockQ_miss rfl ?_
                    refine thenQ_e ?_
                    refine blockQ_hit ?_
                    refine thenQ_n ?_
                    first | exact ⟨⟨rfl, rfl, rfl, rfl, rfl, congrArg (fun i : Nat => Value.int .u64 (i : Int)) ((dig_done (un := n0) hRv hq2 (by rw [← hQ0v]; exact hQ2) (dig_break (un := n0) hv0l (by omega) hRv hq2 (by omega))).trans hQ0v.symm), trivial⟩, hS⟩ | exact ⟨⟨rfl, rfl, rfl, rfl, rfl, congrArg (fun i : Nat => Value.int .u64 (i : Int)) ((dig_done (un := n0) hRv hqr (by rw [← hQ0v]; exact hQq) (by omega)).trans hQ0v.symm), trivial⟩, hS⟩
                  ·
                    have hr6 := hc6
                    try simp only [decide_eq_true_eq, decide_eq_false_iff_not, Bool.and_eq_true, Bool.or_eq_true, Bool.and_eq_false_iff, Bool.or_eq_false_iff, Bool.not_eq_true', Bool.not_eq_false', Int.not_lt, Int.not_le] at hc6
                    refine WC.skip ?_
                    refine blockQ_n ?_
                    refine thenQ_n ?_
                    exact ⟨q - 1, by omega, q - 1, r + v1, ⟨rfl, rfl, rfl, rfl, rfl, rfl, rfl, rfl, rfl, trivial⟩, hS, hq2, hQ2, by omega, rfl, by omega⟩
                ·
                  have hr5 := hc5
                  try simp only [decide_eq_true_eq, decide_eq_false_iff_not, Bool.and_eq_true, Bool.or_eq_true, Bool.and_eq_false_iff, Bool.or_eq_false_iff, Bool.not_eq_true', Bool.not_eq_false', Int.not_lt, Int.not_le] at hc5
                  simp at hr5
              | false =>
                refine WL.gT 104 rfl rfl rfl (WL.op rfl (opW.moveI rfl ?_))
                refine WL.gT 104 rfl rfl rfl (WL.op rfl (opW.moveI rfl ?_))
                refine WL.gT 104 rfl rfl rfl (WL.op rfl (opW.mul rfl rfl (nmul (Nat.lt_of_le_of_lt (Nat.mul_le_mul (show q ≤ 4294967295 by have := of_decide_eq_false hcs104; omega) (show v0 ≤ 4294967295 by omega)) (by decide))) ?_))
                refine WL.gT 104 rfl rfl rfl (WL.op rfl (opW.moveI rfl ?_))
                refine WL.gT 104 rfl rfl rfl (WL.op rfl (opW.mul rfl rfl (nmul (a := 4294967296) (by omega)) ?_))
                refine WL.gT 104 rfl rfl rfl (WL.op rfl (opW.moveI rfl ?_))
                refine WL.gT 104 rfl rfl rfl (WL.op rfl (opW.add rfl rfl (nadd (by omega)) ?_))
                refine WL.gT 104 rfl rfl rfl (WL.op rfl (opW.gtr rfl rfl ?_))
                refine WL.op rfl (opW.pickT rfl rfl ?_)
                refine WL.nil ?_
                refine thenQ_n (hK31 _ _ ?_)
                refine WC.cond _ rfl (fun hc5 => ?_) (fun hc5 => ?_)
                ·
                  have hr5 := hc5
                  try simp only [decide_eq_true_eq, decide_eq_false_iff_not, Bool.and_eq_true, Bool.or_eq_true, Bool.and_eq_false_iff, Bool.or_eq_false_iff, Bool.not_eq_true', Bool.not_eq_false', Int.not_lt, Int.not_le] at hc5
                  obtain ⟨hQ2, hq1⟩ := dig_dec (un := n0) hRv (by omega) hqr (by rw [← hQ0v]; exact hQq) (.inr (by have := hr5; simp only [decide_eq_true_eq] at this; omega))
                  rw [← hQ0v] at hQ2
                  have hq2 : R1 = (q - 1) * v1 + (r + v1) := by
                    rw [hqr]
                    have : q * v1 = (q - 1) * v1 + v1 := by rw [← Nat.succ_mul]; congr 1; omega
                    omega
                  refine WC.skip ?_
                  refine thenQ_n (hK30 _ _ ?_)
                  refine WC.block ?_
                  refine WC.seq (fun K35 hK35 => ?_)
                  refine WC.region ?_
                  refine WL.op rfl (opW.moveI rfl ?_)
                  refine WL.op rfl (opW.sub rfl rfl (nsub (b := 1) (by omega) hqM) ?_)
                  refine WL.op rfl (opW.assignI rfl ?_)
                  refine WL.nil ?_
                  refine thenQ_n (hK35 _ _ ?_)
                  refine WC.seq (fun K36 hK36 => ?_)
                  refine WC.region ?_
                  refine WL.op rfl (opW.moveI rfl ?_)
                  refine WL.op rfl (opW.moveI rfl ?_)
                  refine WL.op rfl (opW.add rfl rfl (nadd (by omega)) ?_)
                  refine WL.op rfl (opW.assignI rfl ?_)
                  refine WL.nil ?_
                  refine thenQ_n (hK36 _ _ ?_)
                  refine WC.seq (fun K37 hK37 => ?_)
                  refine WC.region ?_
                  refine WL.op rfl (opW.moveI rfl ?_)
                  refine WL.op rfl (opW.geq rfl rfl ?_)
                  refine WL.nil ?_
                  refine thenQ_n (hK37 _ _ ?_)
                  refine WC.cond _ rfl (fun hc6 => ?_) (fun hc6 => ?_)
                  ·
                    have hr6 := hc6
                    try simp only [decide_eq_true_eq, decide_eq_false_iff_not, Bool.and_eq_true, Bool.or_eq_true, Bool.and_eq_false_iff, Bool.or_eq_false_iff, Bool.not_eq_true', Bool.not_eq_false', Int.not_lt, Int.not_le] at hc6
                    refine WC.exit ?_
                    refine blockQ_miss rfl ?_
                    refine thenQ_e ?_
                    refine blockQ_hit ?_
                    refine thenQ_n ?_
                    first | exact ⟨⟨rfl, rfl, rfl, rfl, rfl, congrArg (fun i : Nat => Value.int .u64 (i : Int)) ((dig_done (un := n0) hRv hq2 (by rw [← hQ0v]; exact hQ2) (dig_break (un := n0) hv0l (by omega) hRv hq2 (by omega))).trans hQ0v.symm), trivial⟩, hS⟩ | exact ⟨⟨rfl, rfl, rfl, rfl, rfl, congrArg (fun i : Nat => Value.int .u64 (i : Int)) ((dig_done (un := n0) hRv hqr (by rw [← hQ0v]; exact hQq) (by omega)).trans hQ0v.symm), trivial⟩, hS⟩
                  ·
                    have hr6 := hc6
                    try simp only [decide_eq_true_eq, decide_eq_false_iff_not, Bool.and_eq_true, Bool.or_eq_true, Bool.and_eq_false_iff, Bool.or_eq_false_iff, Bool.not_eq_true', Bool.not_eq_false', Int.not_lt, Int.not_le] at hc6
                    refine WC.skip ?_
                    refine blockQ_n ?_
                    refine thenQ_n ?_
                    exact ⟨q - 1, by omega, q - 1, r + v1, ⟨rfl, rfl, rfl, rfl, rfl, rfl, rfl, rfl, rfl, trivial⟩, hS, hq2, hQ2, by omega, rfl, by omega⟩
                ·
                  have hr5 := hc5
                  try simp only [decide_eq_true_eq, decide_eq_false_iff_not, Bool.and_eq_true, Bool.or_eq_true, Bool.and_eq_false_iff, Bool.or_eq_false_iff, Bool.not_eq_true', Bool.not_eq_false', Int.not_lt, Int.not_le] at hc5
                  refine WC.exit ?_
                  refine thenQ_e ?_
                  refine thenQ_e ?_
                  refine blockQ_hit ?_
                  refine thenQ_n ?_
                  first | exact ⟨⟨rfl, rfl, rfl, rfl, rfl, congrArg (fun i : Nat => Value.int .u64 (i : Int)) ((dig_done (un := n0) hRv hq2 (by rw [← hQ0v]; exact hQ2) (dig_break (un := n0) hv0l (by omega) hRv hq2 (by omega))).trans hQ0v.symm), trivial⟩, hS⟩ | exact ⟨⟨rfl, rfl, rfl, rfl, rfl, congrArg (fun i : Nat => Value.int .u64 (i : Int)) ((dig_done (un := n0) hRv hqr (by rw [← hQ0v]; exact hQq) (by omega)).trans hQ0v.symm), trivial⟩, hS⟩
          ·
            rintro f w ⟨hfit, hS⟩
            refine WC.fits _ hfit (fun g => ?_)
            clear hfit
            refine WC.seq (fun K38 hK38 => ?_)
            refine WC.region ?_
            refine WL.op rfl (opW.moveI rfl ?_)
            refine WL.op rfl (opW.mul rfl rfl (nmul (b := 4294967296) (by omega)) ?_)
            refine WL.op rfl (opW.moveI rfl ?_)
            refine WL.op rfl (opW.add rfl rfl (nadd (by omega)) ?_)
            refine WL.op rfl (opW.moveI rfl ?_)
            refine WL.op rfl (opW.mul rfl rfl (nmulM R1 4294967296) ?_)
            refine WL.op rfl (opW.moveI rfl ?_)
            refine WL.op rfl (opW.add rfl rfl (wrap_u64_add _ _) ?_)
            refine WL.op rfl (opW.moveI rfl ?_)
            refine WL.op rfl (opW.moveI rfl ?_)
            refine WL.op rfl (opW.mul rfl rfl (nmulM Q0 y) ?_)
            refine WL.op rfl (opW.sub rfl rfl ((nsubM _ _ (by have := Nat.mod_lt (Q0 * y) (show 0 < 18446744073709551616 by decide); omega)).trans (ncast (b := R0) (by rw [hQ0, hR0]; exact dig_rest hyM hR1y))) ?_)
            refine WL.op rfl (opW.moveI rfl ?_)
            refine WL.op rfl (opW.shr rfl rfl (by omega) (nshr (by omega)) ?_)
            refine WL.op rfl (opW.assignI rfl ?_)
            refine WL.op rfl (opW.assignI rfl ?_)
            refine WL.nil ?_
            refine thenQ_n (hK38 _ _ ?_)
            refine WC.ret ?_
            refine bodyQ_ret (.tmpI rfl (.tmpI rfl .nil)) ?_
            obtain ⟨e1, e2⟩ := hfin
            rw [← e1, ← e2]
            exact ⟨rfl, hS.old⟩

end Go.Fer
