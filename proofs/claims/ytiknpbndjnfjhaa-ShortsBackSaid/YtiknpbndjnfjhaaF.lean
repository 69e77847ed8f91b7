/- ShortsBack -/
import Derived.Test.YtiknpbndjnfjhaaD
import Derived.Test.YtiknpbndjnfjhaaR
set_option linter.all false
namespace Go.Fer
open Go Go.Proofs Go.RowKit

theorem lo_nat (n : Nat) : (lo n).toNat = n % 128 + 128 := by simp [lo]; omega
theorem gs_put (n : Nat) (hn : n ≤ 65535) (ys : List UInt8) : gs (shortB n ++ ys) 0 0 = ((n : Int), ((shortB n).length : Int), 0) := by
  have z := lo_nat n
  have z2 := lo_nat (n / 128)
  unfold shortB
  split
  · rename_i h1
    have e : (UInt8.ofNat n).toNat = n := by simp; omega
    have h2 : ((n : Int) < 128) := by omega
    have h3 : n % 128 = n := by omega
    simp [gs, e, h2, h3]
  · split
    · rename_i h1 h2
      have e : (UInt8.ofNat (n / 128)).toNat = n / 128 := by simp; omega
      have a1 : ¬ (((lo n).toNat : Int) < 128) := by omega
      have a2 : ((n : Int) / 128 < 128) := by omega
      have a3 : ¬ (n / 128 = 0) := by omega
      have a4 : ¬ ((n : Int) / 128 = 0) := by omega
      have a5 : n % 128 + n / 128 % 128 * 128 = n := by omega
      have a6 : (n % 128 + 128) % 128 = n % 128 := by omega
      have a7 : ¬ (((n % 128 + 128 : Nat) : Int) < 128) := by omega
      have a8 : ((n : Int) % 128 + (n : Int) / 128 % 128 * 128) = n := by omega
      have a9 : ¬ ((n : Int) % 128 + 128 < 128) := by omega
      simp [gs, e, z, a2, a4, a6, a8, a9, -Int.not_lt]
    · rename_i h1 h2
      have e : (UInt8.ofNat (n / 128 / 128)).toNat = n / 128 / 128 := by simp; omega
      have b1 : (n % 128 + 128) % 128 = n % 128 := by omega
      have b2 : (n / 128 % 128 + 128) % 128 = n / 128 % 128 := by omega
      have c1 : ¬ ((n : Int) % 128 + 128 < 128) := by omega
      have c2 : ¬ ((n : Int) / 128 % 128 + 128 < 128) := by omega
      have c3 : ¬ ((n : Int) / 128 / 128 = 0) := by omega
      have c4 : (n : Int) / 128 / 128 < 128 := by omega
      have c5 : ¬ (3 < (n : Int) / 128 / 128) := by omega
      have c6 : ((n : Int) % 128 + (n : Int) / 128 % 128 * 128 + (n : Int) / 128 / 128 % 128 * 16384) = n := by omega
      have c7 : ¬ ((n : Int) / 128 % 128 + 128 = 0) := by omega
      simp [-Int.not_lt, gs, e, z, z2, b1, b2, c1, c2, c3, c4, c5, c6, c7]
theorem gs_cut (n : Nat) (k : Nat) (hk : k < (shortB n).length) : gs ((shortB n).take k) 0 0 = (0, 0, 5) := by
  have z := lo_nat n
  have z2 := lo_nat (n / 128)
  have c1 : ¬ ((n : Int) % 128 + 128 < 128) := by omega
  have c2 : ¬ ((n : Int) / 128 % 128 + 128 < 128) := by omega
  have c7 : ¬ ((n : Int) / 128 % 128 + 128 = 0) := by omega
  unfold shortB at hk ⊢
  split at hk
  · rename_i h1
    obtain rfl : k = 0 := by simpa using hk
    rfl
  · rename_i h1
    rw [if_neg h1]
    split at hk
    · rename_i h2
      rw [if_pos h2]
      match k, hk with
      | 0, _ => rfl
      | 1, _ => simp [-Int.not_lt, gs, z, c1]
    · rename_i h2
      rw [if_neg h2]
      match k, hk with
      | 0, _ => rfl
      | 1, _ => simp [-Int.not_lt, gs, z, c1]
      | 2, _ => simp [-Int.not_lt, gs, z, z2, c1, c2, c7]
theorem leN_leB (n m : Nat) : leN (leB n m) = n % 2 ^ (8 * m) := by
  induction m with
  | zero => simp [leB, leN, Nat.mod_one]
  | succ m ih =>
    rw [leB_succ, leN_append, ih, leB_len]
    have e : 2 ^ (8 * (m + 1)) = 2 ^ (8 * m) * 256 := by rw [Nat.mul_add, Nat.pow_add]
    rw [e, Nat.mod_mul]
    simp [leN]
theorem getR_put (n m : Nat) (h1 : 1 ≤ m) (h8 : m ≤ 8) (ys : List UInt8) : getR (leB n m ++ ys) m = (n % 2 ^ (8 * m), 0) := by
  rw [getR_ok h1 h8 (by simp [leB_len]), List.take_left' (leB_len n m), leN_leB]
theorem getR_cut (n m k : Nat) (h1 : 1 ≤ m) (h8 : m ≤ 8) (hk : k < m) : getR ((leB n m).take k) m = (0, 5) := by
  unfold getR; rw [if_neg (by omega), if_pos (by simp [leB_len]; omega)]
theorem manyOf_nat (m : Nat) (h1 : 1 ≤ m) (h8 : m ≤ 8) : manyOf (m : Int) = m := by unfold manyOf; rw [if_neg (by omega)]; simp
theorem mask_u64 (n k : Nat) (hk : k ≤ 7) (hn : n < 18446744073709551616) : bitsI .and .u64 (n : Int) (((2 ^ (8 * k) - 1 : Nat) : Int)) = ((n % 2 ^ (8 * k) : Nat) : Int) := by
  have hp : 2 ^ (8 * k) ≤ 2 ^ 56 := Nat.pow_le_pow_right (by omega) (by omega)
  rw [bits_and_u64 _ _ hn (by omega), Nat.and_two_pow_sub_one_eq_mod]
theorem one_shl (k : Nat) (hk : k ≤ 7) : IntKind.u64.wrap (1 * 2 ^ (min (Int.toNat ((8 * k : Nat) : Int)) IntKind.u64.bits)) = ((2 ^ (8 * k) : Nat) : Int) := by
  have hp : 2 ^ (8 * k) ≤ 2 ^ 56 := Nat.pow_le_pow_right (by omega) (by omega)
  refine shl_u64 (by omega) (by simp) ?_
  generalize 2 ^ (8 * k) = p at *
  omega

theorem sub1 (k : Nat) (hk : k ≤ 7) : IntKind.u64.wrap (((2 ^ (8 * k) : Nat) : Int) - 1) = ((2 ^ (8 * k) - 1 : Nat) : Int) := by
  have hp : 2 ^ (8 * k) ≤ 2 ^ 56 := Nat.pow_le_pow_right (by omega) (by omega)
  have hp1 : 1 ≤ 2 ^ (8 * k) := Nat.one_le_two_pow
  generalize 2 ^ (8 * k) = p at *
  rw [wrap_u64 (by omega)]; omega

theorem back_law (w0 : World) (v0 v1 : Value) (xs ys : List UInt8) (num : Num) (hx : SlR w0 v0 xs) (hy : SlR w0 v1 ys) (hn : num.ok w0) : Ret Try.prog 7 #[v0, v1, .agg (Enc.enc num)] w0 (fun r w' => r = .bool true ∧ Bel w0 w') := by
  refine Ret.enter (args := [v0, v1, .agg (Enc.enc num)]) Try.func7 rfl Try.ntmps7 Try.results7 rfl ?_
  have hS := St.start w0
  refine WC.seq (fun K1 hK1 => ?_)
  refine WC.region ?_
  refine WL.op rfl (opW.boxA hS rfl ?_)
  intro b5 w _ hS
  refine WL.op rfl (opW.assignB rfl ?_)
  refine WL.nil ?_
  refine thenQ_n (hK1 _ _ ?_)
  refine WC.seq (fun K2 hK2 => ?_)
  refine WC.region ?_
  refine WL.op rfl (opW.fieldAddrB rfl ?_)
  refine WL.op rfl (opW.load (hS.ld1 (by first | exact .here | exact .there (.here) | exact .there (.there (.here)) | exact .there (.there (.there (.here))) | exact .there (.there (.there (.there (.here)))) | exact .there (.there (.there (.there (.there (.here))))) | exact .there (.there (.there (.there (.there (.there (.here)))))) | exact .there (.there (.there (.there (.there (.there (.there (.here))))))) | exact .there (.there (.there (.there (.there (.there (.there (.there (.here))))))))) (Num.at_n num)) ?_)
  refine WL.op rfl (opW.conv rfl ((wrap_u16_mod _).trans (by omega : _ = (((num.n % 65536).toNat : Nat) : Int))) ?_)
  refine WL.op rfl (opW.assignI rfl ?_)
  refine WL.nil ?_
  refine thenQ_n (hK2 _ _ ?_)
  refine WC.seq (fun K3 hK3 => ?_)
  refine WC.region ?_
  refine WL.op rfl (opW.fieldAddrB rfl ?_)
  refine WL.op rfl (opW.load (hS.ld1 (by first | exact .here | exact .there (.here) | exact .there (.there (.here)) | exact .there (.there (.there (.here))) | exact .there (.there (.there (.there (.here)))) | exact .there (.there (.there (.there (.there (.here))))) | exact .there (.there (.there (.there (.there (.there (.here)))))) | exact .there (.there (.there (.there (.there (.there (.there (.here))))))) | exact .there (.there (.there (.there (.there (.there (.there (.there (.here))))))))) (Num.at_w num)) ?_)
  refine WL.op rfl (opW.assignI rfl ?_)
  refine WL.nil ?_
  refine thenQ_n (hK3 _ _ ?_)
  refine WC.seq (fun K4 hK4 => ?_)
  refine WC.seq (fun K5 hK5 => ?_)
  refine WC.region ?_
  refine WL.op rfl (opW.moveV (v := v0) rfl ?_)
  refine WL.op rfl (opW.lenV rfl ((hx.bel hS.old)) ?_)
  refine WL.op rfl (opW.gtr rfl rfl ?_)
  refine WL.op rfl (opW.moveB rfl ?_)
  refine WL.gd _ 34 _ rfl rfl rfl rfl (fun hg35 => opW.moveV (v := v1) rfl ⟨rfl, Bel.refl _⟩) (fun w hw => ?_)
  replace hS := hS.bel hw
  refine WL.gd _ 34 _ rfl rfl rfl rfl (fun hg36 => opW.lenV (by first | rfl | exact gv_of rfl hg36) ((hy.bel hS.old)) ⟨rfl, Bel.refl _⟩) (fun w hw => ?_)
  replace hS := hS.bel hw
  refine WL.gd _ 34 _ rfl rfl rfl rfl (fun hg37 => opW.gtr (by first | rfl | exact gv_of rfl hg37) rfl ⟨rfl, Bel.refl _⟩) (fun w hw => ?_)
  replace hS := hS.bel hw
  refine WL.op rfl (opW.pickOr rfl rfl (by first | rfl) ?_)
  refine WL.nil ?_
  refine thenQ_n (hK5 _ _ ?_)
  refine WC.cond _ rfl (fun hc0 => ?_) (fun hc0 => ?_)
  ·
    have hr0 := hc0
    try simp only [decide_eq_true_eq, decide_eq_false_iff_not, Bool.and_eq_true, Bool.or_eq_true, Bool.and_eq_false_iff, Bool.or_eq_false_iff, Bool.not_eq_true', Bool.not_eq_false', Int.not_lt, Int.not_le] at hc0
    refine WC.seq (fun K6 hK6 => ?_)
    refine WC.region ?_
    refine WL.op rfl (opW.call (lives01 _) rfl ?_)
    rintro _ w ⟨rfl, hw⟩; replace hS := hS.bel hw
    refine WL.op rfl (opW.assignB rfl ?_)
    refine WL.nil ?_
    refine thenQ_n (hK6 _ _ ?_)
    refine WC.ret ?_
    refine thenQ_r ?_
    refine bodyQ_ret (.tmpB rfl .nil) ?_
    exact ⟨rfl, hS.old⟩
  ·
    have hr0 := hc0
    try simp only [decide_eq_true_eq, decide_eq_false_iff_not, Bool.and_eq_true, Bool.or_eq_true, Bool.and_eq_false_iff, Bool.or_eq_false_iff, Bool.not_eq_true', Bool.not_eq_false', Int.not_lt, Int.not_le] at hc0
    generalize hN : (num.n % 65536).toNat = N
    have hN6 : N ≤ 65535 := by omega
    have hl3 := len_shortB N
    have hB0 : 0 < (shortB N).length := by rw [len_shortB]; split <;> (try split) <;> omega
    have hB3 : (shortB N).length ≤ 3 := by rw [len_shortB]; split <;> (try split) <;> omega
    clear hl3
    have hW := hn.2.1
    refine WC.skip ?_
    refine thenQ_n (hK4 _ _ ?_)
    refine WC.seq (fun K7 hK7 => ?_)
    refine WC.region ?_
    refine WL.op rfl (opW.moveV (v := v0) rfl ?_)
    refine WL.op rfl (opW.moveI rfl ?_)
    refine WL.op rfl (opW.conv rfl (wrap_i64 (by omega)) ?_)
    refine WL.op rfl (opW.call (put_short _ _ xs N (hx.bel hS.old) (by omega) hN6) rfl ?_)
    rintro _ w ⟨v44, rfl, hv44, hw⟩
    replace hS := hS.newOwn hw hv44.1 hv44.2
    refine WL.op rfl (opW.moveV (v := .tuple #[v44, .int .i64 0]) rfl ?_)
    refine WL.op rfl (opW.extract rfl rfl ?_)
    refine WL.op rfl (opW.extract rfl rfl ?_)
    refine WL.op rfl (opW.assignV (v := v44) rfl ?_)
    refine WL.op rfl (opW.assignI rfl ?_)
    refine WL.nil ?_
    refine thenQ_n (hK7 _ _ ?_)
    refine WC.seq (fun K8 hK8 => ?_)
    refine WC.seq (fun K9 hK9 => ?_)
    refine WC.region ?_
    refine WL.op rfl (opW.moveI rfl ?_)
    refine WL.op rfl (opW.boolF (by simp) (opW.neq rfl rfl ⟨rfl, rfl⟩) ?_)
    refine WL.op rfl (opW.moveB rfl ?_)
    refine WL.gT 49 rfl rfl rfl (WL.op rfl (opW.moveV (v := v44) rfl ?_))
    refine WL.gT 49 rfl rfl rfl (WL.op rfl (opW.lenV rfl (hS.sl (α := UInt8) (by first | exact .here | exact .there (.here) | exact .there (.there (.here)) | exact .there (.there (.there (.here))) | exact .there (.there (.there (.there (.here)))) | exact .there (.there (.there (.there (.there (.here))))) | exact .there (.there (.there (.there (.there (.there (.here)))))) | exact .there (.there (.there (.there (.there (.there (.there (.here))))))) | exact .there (.there (.there (.there (.there (.there (.there (.there (.here)))))))))) ?_))
    refine WL.gT 49 rfl rfl rfl (WL.op rfl (opW.moveV (v := v0) rfl ?_))
    refine WL.gT 49 rfl rfl rfl (WL.op rfl (opW.lenV rfl ((hx.bel hS.old)) ?_))
    refine WL.gT 49 rfl rfl rfl (WL.op rfl (opW.boolF (by simp; omega) (opW.leq rfl rfl ⟨rfl, rfl⟩) ?_))
    refine WL.op rfl (opW.pickT rfl rfl ?_)
    refine WL.op rfl (opW.moveB rfl ?_)
    refine WL.gT 56 rfl rfl rfl (WL.op rfl (opW.moveV (v := v44) rfl ?_))
    refine WL.gT 56 rfl rfl rfl (WL.op rfl (opW.moveV (v := v0) rfl ?_))
    refine WL.gT 56 rfl rfl rfl (WL.op rfl (opW.lenV rfl ((hx.bel hS.old)) ?_))
    refine WL.gT 56 rfl rfl rfl (WL.op rfl (opW.cutS (α := UInt8) (hS.sl (xs := xs ++ shortB N) (by first | exact .here | exact .there (.here) | exact .there (.there (.here)) | exact .there (.there (.there (.here))) | exact .there (.there (.there (.there (.here)))) | exact .there (.there (.there (.there (.there (.here))))) | exact .there (.there (.there (.there (.there (.there (.here)))))) | exact .there (.there (.there (.there (.there (.there (.there (.here))))))) | exact .there (.there (.there (.there (.there (.there (.there (.there (.here)))))))))) ⟨rfl, Nat.le_refl _⟩ ⟨⟨_, rfl⟩, Nat.le_trans (by simp) (hS.sl (xs := xs ++ shortB N) (by first | exact .here | exact .there (.here) | exact .there (.there (.here)) | exact .there (.there (.there (.here))) | exact .there (.there (.there (.there (.here)))) | exact .there (.there (.there (.there (.there (.here))))) | exact .there (.there (.there (.there (.there (.there (.here)))))) | exact .there (.there (.there (.there (.there (.there (.there (.here))))))) | exact .there (.there (.there (.there (.there (.there (.there (.there (.here)))))))))).cap⟩ ⟨rfl, Nat.zero_le _⟩ ?_))
    refine WL.gT 56 rfl rfl rfl (WL.op rfl (opW.moveV (v := v0) rfl ?_))
    refine WL.gT 56 rfl rfl rfl (WL.op rfl (opW.call (sameBytes_ok _ _ _ xs xs (SlR.head (ys := shortB N) (hS.sl (by first | exact .here | exact .there (.here) | exact .there (.there (.here)) | exact .there (.there (.there (.here))) | exact .there (.there (.there (.there (.here)))) | exact .there (.there (.there (.there (.there (.here))))) | exact .there (.there (.there (.there (.there (.there (.here)))))) | exact .there (.there (.there (.there (.there (.there (.there (.here))))))) | exact .there (.there (.there (.there (.there (.there (.there (.there (.here)))))))))) (Nat.le_trans (by simp) (hS.sl (xs := xs ++ shortB N) (by first | exact .here | exact .there (.here) | exact .there (.there (.here)) | exact .there (.there (.there (.here))) | exact .there (.there (.there (.there (.here)))) | exact .there (.there (.there (.there (.there (.here))))) | exact .there (.there (.there (.there (.there (.there (.here)))))) | exact .there (.there (.there (.there (.there (.there (.there (.here))))))) | exact .there (.there (.there (.there (.there (.there (.there (.there (.here)))))))))).cap) (Nat.le_refl _)) (hx.bel hS.old)) rfl ?_))
    rintro _ w ⟨rfl, hw⟩; replace hS := hS.bel hw
    rw [show decide (xs = xs) = true from by simp]
    refine WL.gT 56 rfl rfl rfl (WL.op rfl (opW.not rfl ?_))
    refine WL.op rfl (opW.pickT rfl rfl ?_)
    refine WL.nil ?_
    refine thenQ_n (hK9 _ _ ?_)
    refine WC.cond _ rfl (fun hc1 => ?_) (fun hc1 => ?_)
    ·
      have hr1 := hc1
      try simp only [decide_eq_true_eq, decide_eq_false_iff_not, Bool.and_eq_true, Bool.or_eq_true, Bool.and_eq_false_iff, Bool.or_eq_false_iff, Bool.not_eq_true', Bool.not_eq_false', Int.not_lt, Int.not_le] at hc1
      simp at hr1
    ·
      have hr1 := hc1
      try simp only [decide_eq_true_eq, decide_eq_false_iff_not, Bool.and_eq_true, Bool.or_eq_true, Bool.and_eq_false_iff, Bool.or_eq_false_iff, Bool.not_eq_true', Bool.not_eq_false', Int.not_lt, Int.not_le] at hc1
      refine WC.skip ?_
      refine thenQ_n (hK8 _ _ ?_)
      refine WC.seq (fun K10 hK10 => ?_)
      refine WC.region ?_
      refine WL.op rfl (opW.moveV (v := v44) rfl ?_)
      refine WL.op rfl (opW.moveV (v := v0) rfl ?_)
      refine WL.op rfl (opW.lenV rfl ((hx.bel hS.old)) ?_)
      refine WL.op rfl (opW.cutS (α := UInt8) (hS.sl (xs := xs ++ shortB N) (by first | exact .here | exact .there (.here) | exact .there (.there (.here)) | exact .there (.there (.there (.here))) | exact .there (.there (.there (.there (.here)))) | exact .there (.there (.there (.there (.there (.here))))) | exact .there (.there (.there (.there (.there (.there (.here)))))) | exact .there (.there (.there (.there (.there (.there (.there (.here))))))) | exact .there (.there (.there (.there (.there (.there (.there (.there (.here)))))))))) ⟨rfl, Nat.le_refl _⟩ ⟨⟨rfl, rfl⟩, (hS.sl (xs := xs ++ shortB N) (by first | exact .here | exact .there (.here) | exact .there (.there (.here)) | exact .there (.there (.there (.here))) | exact .there (.there (.there (.there (.here)))) | exact .there (.there (.there (.there (.there (.here))))) | exact .there (.there (.there (.there (.there (.there (.here)))))) | exact .there (.there (.there (.there (.there (.there (.there (.here))))))) | exact .there (.there (.there (.there (.there (.there (.there (.there (.here)))))))))).cap⟩ ⟨⟨_, rfl⟩, by simp⟩ ?_)
      refine WL.op rfl (opW.assignV rfl ?_)
      refine WL.nil ?_
      refine thenQ_n (hK10 _ _ ?_)
      refine WC.seq (fun K11 hK11 => ?_)
      refine WC.region ?_
      refine WL.op rfl (opW.moveV rfl ?_)
      refine WL.op rfl (opW.appendNil (α := UInt8) rfl hS rfl (SlR.tail (xs := xs) (ys := shortB N) (hS.sl (by first | exact .here | exact .there (.here) | exact .there (.there (.here)) | exact .there (.there (.there (.here))) | exact .there (.there (.there (.there (.here)))) | exact .there (.there (.there (.there (.there (.here))))) | exact .there (.there (.there (.there (.there (.there (.here)))))) | exact .there (.there (.there (.there (.there (.there (.there (.here))))))) | exact .there (.there (.there (.there (.there (.there (.there (.there (.here))))))))))) (by omega) (by simp only [maxLen]; omega) ?_)
      intro v71 w hw hS
      refine WL.op rfl (opW.moveV (v := v1) rfl ?_)
      refine WL.op rfl (opW.appendOwn (α := UInt8) rfl hS rfl (by first | exact .here | exact .there (.here) | exact .there (.there (.here)) | exact .there (.there (.there (.here))) | exact .there (.there (.there (.there (.here)))) | exact .there (.there (.there (.there (.there (.here))))) | exact .there (.there (.there (.there (.there (.there (.here)))))) | exact .there (.there (.there (.there (.there (.there (.there (.here))))))) | exact .there (.there (.there (.there (.there (.there (.there (.there (.here))))))))) ((hy.bel hS.old)) (by simp; omega) (by simp only [maxLen]; simp; omega) ?_)
      intro v73 w hS; replace hS := hS _ (by first | exact .here | exact .there (.here) | exact .there (.there (.here)) | exact .there (.there (.there (.here))) | exact .there (.there (.there (.there (.here)))) | exact .there (.there (.there (.there (.there (.here))))) | exact .there (.there (.there (.there (.there (.there (.here)))))) | exact .there (.there (.there (.there (.there (.there (.there (.here))))))) | exact .there (.there (.there (.there (.there (.there (.there (.there (.here)))))))))
      refine WL.op rfl (opW.call ((get_short _ _ (shortB N ++ ys) (hS.sl (by first | exact .here | exact .there (.here) | exact .there (.there (.here)) | exact .there (.there (.there (.here))) | exact .there (.there (.there (.there (.here)))) | exact .there (.there (.there (.there (.there (.here))))) | exact .there (.there (.there (.there (.there (.there (.here)))))) | exact .there (.there (.there (.there (.there (.there (.there (.here))))))) | exact .there (.there (.there (.there (.there (.there (.there (.there (.here))))))))))).mono (fun _ _ h => by rw [gs_put N hN6] at h; exact h)) rfl ?_)
      rintro _ w ⟨rfl, hw⟩; replace hS := hS.bel hw
      refine WL.op rfl (opW.moveV (v := .tuple #[.int .i64 (N : Int), .int .i64 ((shortB N).length : Int), .int .i64 0]) rfl ?_)
      refine WL.op rfl (opW.extract rfl rfl ?_)
      refine WL.op rfl (opW.extract rfl rfl ?_)
      refine WL.op rfl (opW.extract rfl rfl ?_)
      refine WL.op rfl (opW.assignI rfl ?_)
      refine WL.op rfl (opW.assignI rfl ?_)
      refine WL.op rfl (opW.assignI rfl ?_)
      refine WL.nil ?_
      refine thenQ_n (hK11 _ _ ?_)
      refine WC.seq (fun K12 hK12 => ?_)
      refine WC.region ?_
      refine WL.op rfl (opW.moveV rfl ?_)
      refine WL.op rfl (opW.moveV rfl ?_)
      refine WL.op rfl (opW.lenV rfl (SlR.tail (xs := xs) (ys := shortB N) (hS.sl (by first | exact .here | exact .there (.here) | exact .there (.there (.here)) | exact .there (.there (.there (.here))) | exact .there (.there (.there (.there (.here)))) | exact .there (.there (.there (.there (.there (.here))))) | exact .there (.there (.there (.there (.there (.there (.here)))))) | exact .there (.there (.there (.there (.there (.there (.there (.here))))))) | exact .there (.there (.there (.there (.there (.there (.there (.there (.here))))))))))) ?_)
      refine WL.op rfl (opW.sub rfl rfl ((wrap_i64 (by omega)).trans (by omega : _ = (((shortB N).length - 1 : Nat) : Int))) ?_)
      refine WL.op rfl (opW.cutS (α := UInt8) (SlR.tail (xs := xs) (ys := shortB N) (hS.sl (by first | exact .here | exact .there (.here) | exact .there (.there (.here)) | exact .there (.there (.there (.here))) | exact .there (.there (.there (.there (.here)))) | exact .there (.there (.there (.there (.there (.here))))) | exact .there (.there (.there (.there (.there (.there (.here)))))) | exact .there (.there (.there (.there (.there (.there (.there (.here))))))) | exact .there (.there (.there (.there (.there (.there (.there (.there (.here))))))))))) ⟨rfl, Nat.le_refl _⟩ ⟨⟨_, rfl⟩, Nat.le_trans (Nat.sub_le _ _) (SlR.tail (xs := xs) (ys := shortB N) (hS.sl (by first | exact .here | exact .there (.here) | exact .there (.there (.here)) | exact .there (.there (.there (.here))) | exact .there (.there (.there (.there (.here)))) | exact .there (.there (.there (.there (.there (.here))))) | exact .there (.there (.there (.there (.there (.there (.here)))))) | exact .there (.there (.there (.there (.there (.there (.there (.here))))))) | exact .there (.there (.there (.there (.there (.there (.there (.there (.here))))))))))).cap⟩ ⟨rfl, Nat.zero_le _⟩ ?_)
      refine WL.op rfl (opW.call ((get_short _ _ ((shortB N).take ((shortB N).length - 1)) (SlR.front (SlR.tail (xs := xs) (ys := shortB N) (hS.sl (by first | exact .here | exact .there (.here) | exact .there (.there (.here)) | exact .there (.there (.there (.here))) | exact .there (.there (.there (.there (.here)))) | exact .there (.there (.there (.there (.there (.here))))) | exact .there (.there (.there (.there (.there (.there (.here)))))) | exact .there (.there (.there (.there (.there (.there (.there (.here))))))) | exact .there (.there (.there (.there (.there (.there (.there (.there (.here))))))))))) (Nat.sub_le _ _) (Nat.le_trans (Nat.sub_le _ _) (SlR.tail (xs := xs) (ys := shortB N) (hS.sl (by first | exact .here | exact .there (.here) | exact .there (.there (.here)) | exact .there (.there (.there (.here))) | exact .there (.there (.there (.there (.here)))) | exact .there (.there (.there (.there (.there (.here))))) | exact .there (.there (.there (.there (.there (.there (.here)))))) | exact .there (.there (.there (.there (.there (.there (.there (.here))))))) | exact .there (.there (.there (.there (.there (.there (.there (.there (.here))))))))))).cap) (Nat.le_refl _))).mono (fun _ _ h => by rw [gs_cut N _ (by omega)] at h; exact h)) rfl ?_)
      rintro _ w ⟨rfl, hw⟩; replace hS := hS.bel hw
      refine WL.op rfl (opW.moveV (v := .tuple #[.int .i64 0, .int .i64 0, .int .i64 5]) rfl ?_)
      refine WL.op rfl (opW.extract rfl rfl ?_)
      refine WL.op rfl (opW.extract rfl rfl ?_)
      refine WL.op rfl (opW.extract rfl rfl ?_)
      refine WL.op rfl (opW.assignI rfl ?_)
      refine WL.op rfl (opW.assignI rfl ?_)
      refine WL.op rfl (opW.assignI rfl ?_)
      refine WL.nil ?_
      refine thenQ_n (hK12 _ _ ?_)
      refine WC.seq (fun K13 hK13 => ?_)
      refine WC.seq (fun K14 hK14 => ?_)
      refine WC.region ?_
      refine WL.op rfl (opW.moveI rfl ?_)
      refine WL.op rfl (opW.moveI rfl ?_)
      refine WL.op rfl (opW.conv rfl (wrap_i64 (by omega)) ?_)
      refine WL.op rfl (opW.boolF (by simp) (opW.neq rfl rfl ⟨rfl, rfl⟩) ?_)
      refine WL.op rfl (opW.moveB rfl ?_)
      refine WL.gT 92 rfl rfl rfl (WL.op rfl (opW.moveI rfl ?_))
      refine WL.gT 92 rfl rfl rfl (WL.op rfl (opW.moveV rfl ?_))
      refine WL.gT 92 rfl rfl rfl (WL.op rfl (opW.lenV rfl (SlR.tail (xs := xs) (ys := shortB N) (hS.sl (by first | exact .here | exact .there (.here) | exact .there (.there (.here)) | exact .there (.there (.there (.here))) | exact .there (.there (.there (.there (.here)))) | exact .there (.there (.there (.there (.there (.here))))) | exact .there (.there (.there (.there (.there (.there (.here)))))) | exact .there (.there (.there (.there (.there (.there (.there (.here))))))) | exact .there (.there (.there (.there (.there (.there (.there (.there (.here))))))))))) ?_))
      refine WL.gT 92 rfl rfl rfl (WL.op rfl (opW.boolF (by simp) (opW.neq rfl rfl ⟨rfl, rfl⟩) ?_))
      refine WL.op rfl (opW.pickT rfl rfl ?_)
      refine WL.op rfl (opW.moveB rfl ?_)
      refine WL.gT 98 rfl rfl rfl (WL.op rfl (opW.moveI rfl ?_))
      refine WL.gT 98 rfl rfl rfl (WL.op rfl (opW.boolF (by decide) (opW.neq rfl rfl ⟨rfl, rfl⟩) ?_))
      refine WL.op rfl (opW.pickT rfl rfl ?_)
      refine WL.op rfl (opW.moveB rfl ?_)
      refine WL.gT 102 rfl rfl rfl (WL.op rfl (opW.moveI rfl ?_))
      refine WL.gT 102 rfl rfl rfl (WL.op rfl (opW.boolF (by decide) (opW.neq rfl rfl ⟨rfl, rfl⟩) ?_))
      refine WL.op rfl (opW.pickT rfl rfl ?_)
      refine WL.nil ?_
      refine thenQ_n (hK14 _ _ ?_)
      refine WC.cond _ rfl (fun hc2 => ?_) (fun hc2 => ?_)
      ·
        have hr2 := hc2
        try simp only [decide_eq_true_eq, decide_eq_false_iff_not, Bool.and_eq_true, Bool.or_eq_true, Bool.and_eq_false_iff, Bool.or_eq_false_iff, Bool.not_eq_true', Bool.not_eq_false', Int.not_lt, Int.not_le] at hc2
        simp at hr2
      ·
        have hr2 := hc2
        try simp only [decide_eq_true_eq, decide_eq_false_iff_not, Bool.and_eq_true, Bool.or_eq_true, Bool.and_eq_false_iff, Bool.or_eq_false_iff, Bool.not_eq_true', Bool.not_eq_false', Int.not_lt, Int.not_le] at hc2
        refine WC.skip ?_
        refine thenQ_n (hK13 _ _ ?_)
        refine WC.seq (fun K15 hK15 => ?_)
        refine WC.seq (fun K16 hK16 => ?_)
        refine WC.region ?_
        refine WL.op rfl (opW.assignI rfl ?_)
        refine WL.nil ?_
        refine thenQ_n (hK16 _ _ ?_)
        refine WC.block ?_
        refine WC.loop (fun m f w => ∃ k : Nat, Fits [(0, v0), (1, v1), (8, .int .u64 (num.w : Int)), (18, .int .i64 (k : Int))] f ∧ St w0 [] w ∧ 1 ≤ k ∧ k ≤ 9 ∧ m = 9 - k) (8) ?_ ?_
        ·
          exact ⟨1, ⟨rfl, rfl, rfl, rfl, trivial⟩, hS.sub (List.nil_sublist _), by omega, by omega, rfl⟩
        ·
          rintro m f w ⟨k, hfit, hS, hk1, hk9, hm⟩
          refine WC.fits _ hfit (fun g => ?_)
          clear hfit
          refine WC.seq (fun K17 hK17 => ?_)
          refine WC.seq (fun K18 hK18 => ?_)
          refine WC.region ?_
          refine WL.op rfl (opW.moveI rfl ?_)
          refine WL.op rfl (opW.leq rfl rfl ?_)
          refine WL.nil ?_
          refine thenQ_n (hK18 _ _ ?_)
          refine WC.cond _ rfl (fun hc3 => ?_) (fun hc3 => ?_)
          ·
            have hr3 := hc3
            try simp only [decide_eq_true_eq, decide_eq_false_iff_not, Bool.and_eq_true, Bool.or_eq_true, Bool.and_eq_false_iff, Bool.or_eq_false_iff, Bool.not_eq_true', Bool.not_eq_false', Int.not_lt, Int.not_le] at hc3
            have hk8 : k ≤ 8 := by omega
            have hl := leB_len num.w k
            refine WC.skip ?_
            refine thenQ_n (hK17 _ _ ?_)
            refine WC.seq (fun K19 hK19 => ?_)
            refine WC.block ?_
            refine WC.seq (fun K20 hK20 => ?_)
            refine WC.region ?_
            refine WL.op rfl (opW.moveV (v := v0) rfl ?_)
            refine WL.op rfl (opW.moveI rfl ?_)
            refine WL.op rfl (opW.moveI rfl ?_)
            refine WL.op rfl (opW.call ((put_le _ _ xs num.w k (hx.bel hS.old) (by omega)).mono (fun _ _ h => by rw [manyOf_nat k hk1 hk8] at h; exact h)) rfl ?_)
            rintro v113 w ⟨hv113, hw⟩
            replace hS := hS.newOwn hw hv113.1 hv113.2
            refine WL.op rfl (opW.assignV (v := v113) rfl ?_)
            refine WL.nil ?_
            refine thenQ_n (hK20 _ _ ?_)
            refine WC.seq (fun K21 hK21 => ?_)
            refine WC.seq (fun K22 hK22 => ?_)
            refine WC.region ?_
            refine WL.op rfl (opW.moveV (v := v113) rfl ?_)
            refine WL.op rfl (opW.lenV rfl (hS.sl (α := UInt8) (by first | exact .here | exact .there (.here) | exact .there (.there (.here)) | exact .there (.there (.there (.here))) | exact .there (.there (.there (.there (.here)))) | exact .there (.there (.there (.there (.there (.here))))) | exact .there (.there (.there (.there (.there (.there (.here)))))) | exact .there (.there (.there (.there (.there (.there (.there (.here))))))) | exact .there (.there (.there (.there (.there (.there (.there (.there (.here)))))))))) ?_)
            refine WL.op rfl (opW.moveV (v := v0) rfl ?_)
            refine WL.op rfl (opW.lenV rfl ((hx.bel hS.old)) ?_)
            refine WL.op rfl (opW.moveI rfl ?_)
            refine WL.op rfl (opW.add rfl rfl (wrap_i64 (by omega)) ?_)
            refine WL.op rfl (opW.boolF (by simp [leB_len]) (opW.neq rfl rfl ⟨rfl, rfl⟩) ?_)
            refine WL.nil ?_
            refine thenQ_n (hK22 _ _ ?_)
            refine WC.cond _ rfl (fun hc4 => ?_) (fun hc4 => ?_)
            ·
              have hr4 := hc4
              try simp only [decide_eq_true_eq, decide_eq_false_iff_not, Bool.and_eq_true, Bool.or_eq_true, Bool.and_eq_false_iff, Bool.or_eq_false_iff, Bool.not_eq_true', Bool.not_eq_false', Int.not_lt, Int.not_le] at hc4
              simp at hr4
            ·
              have hr4 := hc4
              try simp only [decide_eq_true_eq, decide_eq_false_iff_not, Bool.and_eq_true, Bool.or_eq_true, Bool.and_eq_false_iff, Bool.or_eq_false_iff, Bool.not_eq_true', Bool.not_eq_false', Int.not_lt, Int.not_le] at hc4
              refine WC.skip ?_
              refine thenQ_n (hK21 _ _ ?_)
              refine WC.seq (fun K23 hK23 => ?_)
              refine WC.region ?_
              refine WL.op rfl (opW.moveV (v := v113) rfl ?_)
              refine WL.op rfl (opW.moveV (v := v0) rfl ?_)
              refine WL.op rfl (opW.lenV rfl ((hx.bel hS.old)) ?_)
              refine WL.op rfl (opW.cutS (α := UInt8) (hS.sl (xs := xs ++ leB num.w k) (by first | exact .here | exact .there (.here) | exact .there (.there (.here)) | exact .there (.there (.there (.here))) | exact .there (.there (.there (.there (.here)))) | exact .there (.there (.there (.there (.there (.here))))) | exact .there (.there (.there (.there (.there (.there (.here)))))) | exact .there (.there (.there (.there (.there (.there (.there (.here))))))) | exact .there (.there (.there (.there (.there (.there (.there (.there (.here)))))))))) ⟨rfl, Nat.le_refl _⟩ ⟨⟨rfl, rfl⟩, (hS.sl (xs := xs ++ leB num.w k) (by first | exact .here | exact .there (.here) | exact .there (.there (.here)) | exact .there (.there (.there (.here))) | exact .there (.there (.there (.there (.here)))) | exact .there (.there (.there (.there (.there (.here))))) | exact .there (.there (.there (.there (.there (.there (.here)))))) | exact .there (.there (.there (.there (.there (.there (.there (.here))))))) | exact .there (.there (.there (.there (.there (.there (.there (.there (.here)))))))))).cap⟩ ⟨⟨_, rfl⟩, by simp⟩ ?_)
              refine WL.op rfl (opW.assignV rfl ?_)
              refine WL.nil ?_
              refine thenQ_n (hK23 _ _ ?_)
              refine WC.seq (fun K24 hK24 => ?_)
              refine WC.region ?_
              refine WL.op rfl (opW.moveV rfl ?_)
              refine WL.op rfl (opW.appendNil (α := UInt8) rfl hS rfl (SlR.tail (xs := xs) (ys := leB num.w k) (hS.sl (by first | exact .here | exact .there (.here) | exact .there (.there (.here)) | exact .there (.there (.there (.here))) | exact .there (.there (.there (.there (.here)))) | exact .there (.there (.there (.there (.there (.here))))) | exact .there (.there (.there (.there (.there (.there (.here)))))) | exact .there (.there (.there (.there (.there (.there (.there (.here))))))) | exact .there (.there (.there (.there (.there (.there (.there (.there (.here))))))))))) (by omega) (by simp only [maxLen]; omega) ?_)
              intro v127 w hw hS
              refine WL.op rfl (opW.moveV (v := v1) rfl ?_)
              refine WL.op rfl (opW.appendOwn (α := UInt8) rfl hS rfl (by first | exact .here | exact .there (.here) | exact .there (.there (.here)) | exact .there (.there (.there (.here))) | exact .there (.there (.there (.there (.here)))) | exact .there (.there (.there (.there (.there (.here))))) | exact .there (.there (.there (.there (.there (.there (.here)))))) | exact .there (.there (.there (.there (.there (.there (.there (.here))))))) | exact .there (.there (.there (.there (.there (.there (.there (.there (.here))))))))) ((hy.bel hS.old)) (by simp; omega) (by simp only [maxLen]; simp; omega) ?_)
              intro v129 w hS; replace hS := hS _ (by first | exact .here | exact .there (.here) | exact .there (.there (.here)) | exact .there (.there (.there (.here))) | exact .there (.there (.there (.there (.here)))) | exact .there (.there (.there (.there (.there (.here))))) | exact .there (.there (.there (.there (.there (.there (.here)))))) | exact .there (.there (.there (.there (.there (.there (.there (.here))))))) | exact .there (.there (.there (.there (.there (.there (.there (.there (.here)))))))))
              refine WL.op rfl (opW.moveI rfl ?_)
              refine WL.op rfl (opW.call ((get_le _ _ (leB num.w k ++ ys) k (hS.sl (by first | exact .here | exact .there (.here) | exact .there (.there (.here)) | exact .there (.there (.there (.here))) | exact .there (.there (.there (.there (.here)))) | exact .there (.there (.there (.there (.there (.here))))) | exact .there (.there (.there (.there (.there (.there (.here)))))) | exact .there (.there (.there (.there (.there (.there (.there (.here))))))) | exact .there (.there (.there (.there (.there (.there (.there (.there (.here))))))))))).mono (fun _ _ h => by rw [getR_put num.w k hk1 hk8] at h; exact h)) rfl ?_)
              rintro _ w ⟨rfl, hw⟩; replace hS := hS.bel hw
              refine WL.op rfl (opW.moveV (v := .tuple #[.int .u64 ((num.w % 2 ^ (8 * k) : Nat) : Int), .int .i64 0]) rfl ?_)
              refine WL.op rfl (opW.extract rfl rfl ?_)
              refine WL.op rfl (opW.extract rfl rfl ?_)
              refine WL.op rfl (opW.assignI rfl ?_)
              refine WL.op rfl (opW.assignI rfl ?_)
              refine WL.nil ?_
              refine thenQ_n (hK24 _ _ ?_)
              refine WC.seq (fun K25 hK25 => ?_)
              refine WC.region ?_
              refine WL.op rfl (opW.moveV rfl ?_)
              refine WL.op rfl (opW.moveI rfl ?_)
              refine WL.op rfl (opW.sub rfl rfl ((wrap_i64 (by omega)).trans (by omega : _ = ((k - 1 : Nat) : Int))) ?_)
              refine WL.op rfl (opW.cutS (α := UInt8) (SlR.tail (xs := xs) (ys := leB num.w k) (hS.sl (by first | exact .here | exact .there (.here) | exact .there (.there (.here)) | exact .there (.there (.there (.here))) | exact .there (.there (.there (.there (.here)))) | exact .there (.there (.there (.there (.there (.here))))) | exact .there (.there (.there (.there (.there (.there (.here)))))) | exact .there (.there (.there (.there (.there (.there (.there (.here))))))) | exact .there (.there (.there (.there (.there (.there (.there (.there (.here))))))))))) ⟨rfl, Nat.le_refl _⟩ ⟨⟨_, rfl⟩, Nat.le_trans (by omega) (SlR.tail (xs := xs) (ys := leB num.w k) (hS.sl (by first | exact .here | exact .there (.here) | exact .there (.there (.here)) | exact .there (.there (.there (.here))) | exact .there (.there (.there (.there (.here)))) | exact .there (.there (.there (.there (.there (.here))))) | exact .there (.there (.there (.there (.there (.there (.here)))))) | exact .there (.there (.there (.there (.there (.there (.there (.here))))))) | exact .there (.there (.there (.there (.there (.there (.there (.there (.here))))))))))).cap⟩ ⟨rfl, Nat.zero_le _⟩ ?_)
              refine WL.op rfl (opW.moveI rfl ?_)
              refine WL.op rfl (opW.call ((get_le _ _ ((leB num.w k).take (k - 1)) k (SlR.front (SlR.tail (xs := xs) (ys := leB num.w k) (hS.sl (by first | exact .here | exact .there (.here) | exact .there (.there (.here)) | exact .there (.there (.there (.here))) | exact .there (.there (.there (.there (.here)))) | exact .there (.there (.there (.there (.there (.here))))) | exact .there (.there (.there (.there (.there (.there (.here)))))) | exact .there (.there (.there (.there (.there (.there (.there (.here))))))) | exact .there (.there (.there (.there (.there (.there (.there (.there (.here))))))))))) (by omega) (Nat.le_trans (by omega) (SlR.tail (xs := xs) (ys := leB num.w k) (hS.sl (by first | exact .here | exact .there (.here) | exact .there (.there (.here)) | exact .there (.there (.there (.here))) | exact .there (.there (.there (.there (.here)))) | exact .there (.there (.there (.there (.there (.here))))) | exact .there (.there (.there (.there (.there (.there (.here)))))) | exact .there (.there (.there (.there (.there (.there (.there (.here))))))) | exact .there (.there (.there (.there (.there (.there (.there (.there (.here))))))))))).cap) (Nat.le_refl _))).mono (fun _ _ h => by rw [getR_cut num.w k (k - 1) hk1 hk8 (by omega)] at h; exact h)) rfl ?_)
              rintro _ w ⟨rfl, hw⟩; replace hS := hS.bel hw
              refine WL.op rfl (opW.moveV (v := .tuple #[.int .u64 0, .int .i64 5]) rfl ?_)
              refine WL.op rfl (opW.extract rfl rfl ?_)
              refine WL.op rfl (opW.extract rfl rfl ?_)
              refine WL.op rfl (opW.assignI rfl ?_)
              refine WL.op rfl (opW.assignI rfl ?_)
              refine WL.nil ?_
              refine thenQ_n (hK25 _ _ ?_)
              refine WC.seq (fun K26 hK26 => ?_)
              refine WC.region ?_
              refine WL.op rfl (opW.moveI rfl ?_)
              refine WL.op rfl (opW.assignI rfl ?_)
              refine WL.nil ?_
              refine thenQ_n (hK26 _ _ ?_)
              refine WC.mid (fun f w =>  Fits [(0, v0), (1, v1), (8, .int .u64 (num.w : Int)), (18, .int .i64 (k : Int)), (21, .int .u64 ((num.w % 2 ^ (8 * k) : Nat) : Int)), (22, .int .i64 0), (24, .int .i64 5), (25, .int .u64 ((num.w % 2 ^ (8 * k) : Nat) : Int))] f ∧ St w0 [] w) ?_ ?_
              ·
                refine WC.seq (fun K27 hK27 => ?_)
                refine WC.region ?_
                refine WL.op rfl (opW.moveI rfl ?_)
                refine WL.op rfl (opW.lss rfl rfl ?_)
                refine WL.nil ?_
                refine thenQ_n (hK27 _ _ ?_)
                refine WC.cond _ rfl (fun hc5 => ?_) (fun hc5 => ?_)
                ·
                  have hr5 := hc5
                  try simp only [decide_eq_true_eq, decide_eq_false_iff_not, Bool.and_eq_true, Bool.or_eq_true, Bool.and_eq_false_iff, Bool.or_eq_false_iff, Bool.not_eq_true', Bool.not_eq_false', Int.not_lt, Int.not_le] at hc5
                  refine WC.region ?_
                  refine WL.op rfl (opW.moveI rfl ?_)
                  refine WL.op rfl (opW.moveI rfl ?_)
                  refine WL.op rfl (opW.mul rfl rfl ((wrap_i64 (by omega)).trans (by omega : _ = ((8 * k : Nat) : Int))) ?_)
                  refine WL.op rfl (opW.conv rfl (wrap_u64 (by omega)) ?_)
                  refine WL.op rfl (opW.shl rfl rfl (by omega) (one_shl k (by omega)) ?_)
                  refine WL.op rfl (opW.sub rfl rfl (sub1 k (by omega)) ?_)
                  refine WL.op rfl (opW.and rfl rfl (mask_u64 _ k (by omega) (by omega)) ?_)
                  refine WL.op rfl (opW.assignI rfl ?_)
                  refine WL.nil ?_
                  refine thenQ_n ?_
                  exact ⟨⟨rfl, rfl, rfl, rfl, rfl, rfl, rfl, congrArg (Value.int .u64) (by first | rfl | (cases (show k = 8 by omega); omega)), trivial⟩, hS.sub (List.nil_sublist _)⟩
                ·
                  have hr5 := hc5
                  try simp only [decide_eq_true_eq, decide_eq_false_iff_not, Bool.and_eq_true, Bool.or_eq_true, Bool.and_eq_false_iff, Bool.or_eq_false_iff, Bool.not_eq_true', Bool.not_eq_false', Int.not_lt, Int.not_le] at hc5
                  refine WC.skip ?_
                  refine thenQ_n ?_
                  exact ⟨⟨rfl, rfl, rfl, rfl, rfl, rfl, rfl, congrArg (Value.int .u64) (by first | rfl | (cases (show k = 8 by omega); omega)), trivial⟩, hS.sub (List.nil_sublist _)⟩
              ·
                rintro f w ⟨hfit, hS⟩
                refine WC.fits _ hfit (fun g => ?_)
                clear hfit
                refine WC.seq (fun K28 hK28 => ?_)
                refine WC.region ?_
                refine WL.op rfl (opW.moveI rfl ?_)
                refine WL.op rfl (opW.moveI rfl ?_)
                refine WL.op rfl (opW.boolF (by simp) (opW.neq rfl rfl ⟨rfl, rfl⟩) ?_)
                refine WL.op rfl (opW.moveB rfl ?_)
                refine WL.gT 156 rfl rfl rfl (WL.op rfl (opW.moveI rfl ?_))
                refine WL.gT 156 rfl rfl rfl (WL.op rfl (opW.boolF (by decide) (opW.neq rfl rfl ⟨rfl, rfl⟩) ?_))
                refine WL.op rfl (opW.pickT rfl rfl ?_)
                refine WL.op rfl (opW.moveB rfl ?_)
                refine WL.gT 160 rfl rfl rfl (WL.op rfl (opW.moveI rfl ?_))
                refine WL.gT 160 rfl rfl rfl (WL.op rfl (opW.boolF (by decide) (opW.neq rfl rfl ⟨rfl, rfl⟩) ?_))
                refine WL.op rfl (opW.pickT rfl rfl ?_)
                refine WL.nil ?_
                refine thenQ_n (hK28 _ _ ?_)
                refine WC.cond _ rfl (fun hc6 => ?_) (fun hc6 => ?_)
                ·
                  have hr6 := hc6
                  try simp only [decide_eq_true_eq, decide_eq_false_iff_not, Bool.and_eq_true, Bool.or_eq_true, Bool.and_eq_false_iff, Bool.or_eq_false_iff, Bool.not_eq_true', Bool.not_eq_false', Int.not_lt, Int.not_le] at hc6
                  simp at hr6
                ·
                  have hr6 := hc6
                  try simp only [decide_eq_true_eq, decide_eq_false_iff_not, Bool.and_eq_true, Bool.or_eq_true, Bool.and_eq_false_iff, Bool.or_eq_false_iff, Bool.not_eq_true', Bool.not_eq_false', Int.not_lt, Int.not_le] at hc6
                  refine WC.skip ?_
                  refine blockQ_n ?_
                  refine thenQ_n (hK19 _ _ ?_)
                  refine WC.region ?_
                  refine WL.op rfl (opW.moveI rfl ?_)
                  refine WL.op rfl (opW.add rfl rfl (wrap_i64 (by omega)) ?_)
                  refine WL.op rfl (opW.assignI rfl ?_)
                  refine WL.nil ?_
                  refine thenQ_n ?_
                  refine ⟨9 - (k + 1), by omega, k + 1, ⟨rfl, rfl, rfl, congrArg (Value.int .i64) (by omega), trivial⟩, hS.sub (List.nil_sublist _), by omega, by omega, rfl⟩
          ·
            have hr3 := hc3
            try simp only [decide_eq_true_eq, decide_eq_false_iff_not, Bool.and_eq_true, Bool.or_eq_true, Bool.and_eq_false_iff, Bool.or_eq_false_iff, Bool.not_eq_true', Bool.not_eq_false', Int.not_lt, Int.not_le] at hc3
            refine WC.exit ?_
            refine thenQ_e ?_
            refine thenQ_e ?_
            refine blockQ_hit ?_
            refine thenQ_n (hK15 _ _ ?_)
            refine WC.seq (fun K29 hK29 => ?_)
            refine WC.region ?_
            refine WL.op rfl (opW.call (lives01 _) rfl ?_)
            rintro _ w ⟨rfl, hw⟩; replace hS := hS.bel hw
            refine WL.op rfl (opW.assignB rfl ?_)
            refine WL.nil ?_
            refine thenQ_n (hK29 _ _ ?_)
            refine WC.ret ?_
            refine bodyQ_ret (.tmpB rfl .nil) ?_
            exact ⟨rfl, hS.old⟩

end Go.Fer
