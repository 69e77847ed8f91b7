/- ShortsPut -/
import Derived.Test.YtiknpbndjnfjhaaM
set_option linter.all false
namespace Go.Fer
open Go Go.Proofs Go.RowKit

def psL (xs : List UInt8) (n : Int) : List UInt8 := if 0 ≤ n ∧ n ≤ 65535 then xs ++ shortB n.toNat else []
def psE (n : Int) : Int := if 0 ≤ n ∧ n ≤ 65535 then 0 else 1
theorem put_short_any (w0 : World) (v : Value) (xs : List UInt8) (n : Int) (hx : SlR w0 v xs) (hl : xs.length ≤ 900000) : Ret Try.prog 10 #[v, .int .i64 n] w0 (fun u w' => ∃ v', u = .tuple #[v', .int .i64 (psE n)] ∧ New w0 w' v' 5 (psL xs n) ∧ Bel w0 w') := by
  by_cases h : 0 ≤ n ∧ n ≤ 65535
  · obtain ⟨m, rfl⟩ := Int.eq_ofNat_of_zero_le h.1
    have := put_short w0 v xs m hx hl (by omega)
    unfold psE psL
    rw [if_pos h, if_pos h]
    exact this
  · unfold psE psL
    rw [if_neg h, if_neg h]
    exact Ret.mono (put_short_err w0 v n (by omega)) fun u w' hu => ⟨_, hu.1, New.nil _ _ _, hu.2⟩
theorem short_rec {n : Nat} (h1 : 128 ≤ n) (h2 : n ≤ 65535) : shortB n = lo n :: shortB (n / 128) := by
  unfold shortB
  rw [if_neg (by omega)]
  by_cases h : n < 16384
  · rw [if_pos h, if_pos (by omega)]
  · rw [if_neg h, if_neg (by omega), if_pos (by omega)]
theorem lo_nat (n : Nat) : ((lo n).toNat : Int) = ((n % 128 : Nat) : Int) + 128 := by
  have : (lo n).toNat = n % 128 + 128 := by simp [lo]; omega
  omega
theorem by8n {n : Nat} (h : n < 128) : (n : Int) = ((UInt8.ofNat n).toNat : Int) := by simp; omega

theorem rshort_step (w0 : World) (n : Nat) (hn : n ≤ 65535) (ih : 128 ≤ n → ∀ w, Ret Try.prog 26 #[.int .i64 ((n / 128 : Nat) : Int)] w (fun u w' => New w w' u 5 (shortB (n / 128)) ∧ Bel w w')) : Ret Try.prog 26 #[.int .i64 (n : Int)] w0 (fun u w' => New w0 w' u 5 (shortB n) ∧ Bel w0 w') := by
  refine Ret.enter (args := [.int .i64 (n : Int)]) Try.func26 rfl Try.ntmps26 Try.results26 rfl ?_
  have hS := St.start w0
  refine WC.seq (fun K1 hK1 => ?_)
  refine WC.region ?_
  refine WL.op rfl (opW.assignV (v := .slice none 0 0) rfl ?_)
  refine WL.nil ?_
  refine thenQ_n (hK1 _ _ ?_)
  refine WC.seq (fun K2 hK2 => ?_)
  refine WC.seq (fun K3 hK3 => ?_)
  refine WC.region ?_
  refine WL.op rfl (opW.moveI rfl ?_)
  refine WL.op rfl (opW.lss rfl rfl ?_)
  refine WL.nil ?_
  refine thenQ_n (hK3 _ _ ?_)
  refine WC.cond _ rfl (fun hc0 => ?_) (fun hc0 => ?_)
  ·
    have hr0 := hc0
    try simp only [decide_eq_true_eq, decide_eq_false_iff_not, Bool.and_eq_true, Bool.or_eq_true, Bool.and_eq_false_iff, Bool.or_eq_false_iff, Bool.not_eq_true', Bool.not_eq_false', Int.not_lt, Int.not_le] at hc0
    refine WC.seq (fun K4 hK4 => ?_)
    refine WC.region ?_
    refine WL.op rfl (opW.moveI rfl ?_)
    refine WL.op rfl (opW.conv rfl ((wrap_u8 (by omega)).trans (by8n (by omega))) ?_)
    refine WL.op rfl (opW.buildSl hS (([UInt8.ofNat n] : List UInt8)) [.int .u8 ((UInt8.ofNat n).toNat : Int)] rfl rfl rfl rfl (by decide) ?_)
    intro b7 w hw hS
    refine WL.op rfl (opW.assignV rfl ?_)
    refine WL.nil ?_
    refine thenQ_n (hK4 _ _ ?_)
    refine WC.ret ?_
    refine thenQ_r ?_
    refine bodyQ_ret (.tmp .nil) ?_
    rw [show shortB n = [UInt8.ofNat n] from by unfold shortB; rw [if_pos (by omega)]]
    exact ⟨hS.own_new (by first | exact .here | exact .there (.here) | exact .there (.there (.here)) | exact .there (.there (.there (.here))) | exact .there (.there (.there (.there (.here)))) | exact .there (.there (.there (.there (.there (.here))))) | exact .there (.there (.there (.there (.there (.there (.here)))))) | exact .there (.there (.there (.there (.there (.there (.there (.here))))))) | exact .there (.there (.there (.there (.there (.there (.there (.there (.here)))))))) | exact .there (.there (.there (.there (.there (.there (.there (.there (.there (.here))))))))) | exact .there (.there (.there (.there (.there (.there (.there (.there (.there (.there (.here)))))))))) | exact .there (.there (.there (.there (.there (.there (.there (.there (.there (.there (.there (.here))))))))))) | exact .there (.there (.there (.there (.there (.there (.there (.there (.there (.there (.there (.there (.here))))))))))))), hS.old⟩
  ·
    have hr0 := hc0
    try simp only [decide_eq_true_eq, decide_eq_false_iff_not, Bool.and_eq_true, Bool.or_eq_true, Bool.and_eq_false_iff, Bool.or_eq_false_iff, Bool.not_eq_true', Bool.not_eq_false', Int.not_lt, Int.not_le] at hc0
    refine WC.skip ?_
    refine thenQ_n (hK2 _ _ ?_)
    refine WC.seq (fun K5 hK5 => ?_)
    refine WC.region ?_
    refine WL.op rfl (opW.moveI rfl ?_)
    refine WL.op rfl (opW.rem rfl rfl (by omega) (show Int.tmod _ _ = ((n % 128 : Nat) : Int) from tmod_nat n 128) ?_)
    refine WL.op rfl (opW.conv rfl (wrap_u8 (by omega)) ?_)
    refine WL.op rfl (opW.add rfl rfl ((show IntKind.u8.wrap _ = ((lo n).toNat : Int) from by rw [lo_nat, wrap_u8 (by omega)])) ?_)
    refine WL.op rfl (opW.buildSl hS (([lo n] : List UInt8)) [.int .u8 ((lo n).toNat : Int)] rfl rfl rfl rfl (by decide) ?_)
    intro b12 w hw hS
    refine WL.op rfl (opW.moveI rfl ?_)
    refine WL.op rfl (opW.quo rfl rfl (by omega) (show IntKind.i64.wrap _ = ((n / 128 : Nat) : Int) from by rw [show ((n : Int)).tdiv 128 = ((n / 128 : Nat) : Int) from by rw [Int.tdiv_eq_ediv_of_nonneg (by omega)]; omega]; exact wrap_i64 (by omega)) ?_)
    refine WL.op rfl (opW.call (ih (by omega) _) rfl ?_)
    rintro v15 w ⟨hn15, hw⟩
    replace hS := hS.newOwn hw hn15.1 hn15.2
    refine WL.op rfl (opW.appendOwn (α := UInt8) (v := .slice (some ⟨b12, 0, none⟩) 1 1) (xs := [lo n]) rfl hS rfl (by first | exact .here | exact .there (.here) | exact .there (.there (.here)) | exact .there (.there (.there (.here))) | exact .there (.there (.there (.there (.here)))) | exact .there (.there (.there (.there (.there (.here))))) | exact .there (.there (.there (.there (.there (.there (.here)))))) | exact .there (.there (.there (.there (.there (.there (.there (.here))))))) | exact .there (.there (.there (.there (.there (.there (.there (.there (.here)))))))) | exact .there (.there (.there (.there (.there (.there (.there (.there (.there (.here))))))))) | exact .there (.there (.there (.there (.there (.there (.there (.there (.there (.there (.here)))))))))) | exact .there (.there (.there (.there (.there (.there (.there (.there (.there (.there (.there (.here))))))))))) | exact .there (.there (.there (.there (.there (.there (.there (.there (.there (.there (.there (.there (.here))))))))))))) (hS.sl (v := v15) (xs := shortB (n / 128)) (by first | exact .here | exact .there (.here) | exact .there (.there (.here)) | exact .there (.there (.there (.here))) | exact .there (.there (.there (.there (.here)))) | exact .there (.there (.there (.there (.there (.here))))) | exact .there (.there (.there (.there (.there (.there (.here)))))) | exact .there (.there (.there (.there (.there (.there (.there (.here))))))) | exact .there (.there (.there (.there (.there (.there (.there (.there (.here)))))))) | exact .there (.there (.there (.there (.there (.there (.there (.there (.there (.here))))))))) | exact .there (.there (.there (.there (.there (.there (.there (.there (.there (.there (.here)))))))))) | exact .there (.there (.there (.there (.there (.there (.there (.there (.there (.there (.there (.here))))))))))) | exact .there (.there (.there (.there (.there (.there (.there (.there (.there (.there (.there (.there (.here)))))))))))))) (by have := len_shortB (n / 128); simp only [List.length_cons, List.length_nil]; split at this <;> (try split at this) <;> omega) (by have := len_shortB (n / 128); simp only [maxLen, List.length_cons, List.length_nil]; split at this <;> (try split at this) <;> omega) ?_)
    intro v16 w hS; replace hS := hS _ (by first | exact .here | exact .there (.here) | exact .there (.there (.here)) | exact .there (.there (.there (.here))) | exact .there (.there (.there (.there (.here)))) | exact .there (.there (.there (.there (.there (.here))))) | exact .there (.there (.there (.there (.there (.there (.here)))))) | exact .there (.there (.there (.there (.there (.there (.there (.here))))))) | exact .there (.there (.there (.there (.there (.there (.there (.there (.here)))))))) | exact .there (.there (.there (.there (.there (.there (.there (.there (.there (.here))))))))) | exact .there (.there (.there (.there (.there (.there (.there (.there (.there (.there (.here)))))))))) | exact .there (.there (.there (.there (.there (.there (.there (.there (.there (.there (.there (.here))))))))))) | exact .there (.there (.there (.there (.there (.there (.there (.there (.there (.there (.there (.there (.here)))))))))))))
    refine WL.op rfl (opW.assignV (v := v16) rfl ?_)
    refine WL.nil ?_
    refine thenQ_n (hK5 _ _ ?_)
    refine WC.ret ?_
    refine bodyQ_ret (.tmpV (v := v16) rfl .nil) ?_
    rw [short_rec (by omega) hn]
    exact ⟨hS.own_new (xs := lo n :: shortB (n / 128)) (by first | exact .here | exact .there (.here) | exact .there (.there (.here)) | exact .there (.there (.there (.here))) | exact .there (.there (.there (.there (.here)))) | exact .there (.there (.there (.there (.there (.here))))) | exact .there (.there (.there (.there (.there (.there (.here)))))) | exact .there (.there (.there (.there (.there (.there (.there (.here))))))) | exact .there (.there (.there (.there (.there (.there (.there (.there (.here)))))))) | exact .there (.there (.there (.there (.there (.there (.there (.there (.there (.here))))))))) | exact .there (.there (.there (.there (.there (.there (.there (.there (.there (.there (.here)))))))))) | exact .there (.there (.there (.there (.there (.there (.there (.there (.there (.there (.there (.here))))))))))) | exact .there (.there (.there (.there (.there (.there (.there (.there (.there (.there (.there (.there (.here))))))))))))), hS.old⟩

theorem rshort_ok (w0 : World) (n : Nat) (hn : n ≤ 65535) : Ret Try.prog 26 #[.int .i64 (n : Int)] w0 (fun u w' => New w0 w' u 5 (shortB n) ∧ Bel w0 w') :=
  rshort_step w0 n hn fun h1 w => rshort_step w (n / 128) (by omega) fun h2 w => rshort_step w (n / 128 / 128) (by omega) fun h3 => by omega

theorem rput_short (w0 : World) (v : Value) (xs : List UInt8) (n : Nat) (hx : SlR w0 v xs) (hl : xs.length ≤ 900000) (hn : n ≤ 65535) : Ret Try.prog 11 #[v, .int .i64 (n : Int)] w0 (fun u w' => ∃ v', u = .tuple #[v', .int .i64 0] ∧ New w0 w' v' 5 (xs ++ shortB n) ∧ Bel w0 w') := by
  refine Ret.enter (args := [v, .int .i64 (n : Int)]) Try.func11 rfl Try.ntmps11 Try.results11 rfl ?_
  have hS := St.start w0
  refine WC.seq (fun K1 hK1 => ?_)
  refine WC.region ?_
  refine WL.op rfl (opW.assignV (v := .slice none 0 0) rfl ?_)
  refine WL.op rfl (opW.assignI rfl ?_)
  refine WL.nil ?_
  refine thenQ_n (hK1 _ _ ?_)
  refine WC.seq (fun K2 hK2 => ?_)
  refine WC.seq (fun K3 hK3 => ?_)
  refine WC.region ?_
  refine WL.op rfl (opW.moveI rfl ?_)
  refine WL.op rfl (opW.lss rfl rfl ?_)
  refine WL.op rfl (opW.moveB rfl ?_)
  refine WL.gd _ 8 _ rfl rfl rfl rfl (fun hg9 => opW.moveI rfl ⟨rfl, Bel.refl _⟩) (fun w hw => ?_)
  replace hS := hS.bel hw
  refine WL.gd _ 8 _ rfl rfl rfl rfl (fun hg10 => opW.gtr (by first | exact gv_of rfl hg10 | rfl) rfl ⟨rfl, Bel.refl _⟩) (fun w hw => ?_)
  replace hS := hS.bel hw
  refine WL.op rfl (opW.pickOr rfl rfl (by first | rfl) ?_)
  refine WL.nil ?_
  refine thenQ_n (hK3 _ _ ?_)
  refine WC.cond _ rfl (fun hc0 => ?_) (fun hc0 => ?_)
  ·
    have hr0 := hc0
    try simp only [decide_eq_true_eq, decide_eq_false_iff_not, Bool.and_eq_true, Bool.or_eq_true, Bool.and_eq_false_iff, Bool.or_eq_false_iff, Bool.not_eq_true', Bool.not_eq_false', Int.not_lt, Int.not_le] at hc0
    simp only [Bool.or_eq_true, decide_eq_true_eq] at hr0
    omega
  ·
    have hr0 := hc0
    try simp only [decide_eq_true_eq, decide_eq_false_iff_not, Bool.and_eq_true, Bool.or_eq_true, Bool.and_eq_false_iff, Bool.or_eq_false_iff, Bool.not_eq_true', Bool.not_eq_false', Int.not_lt, Int.not_le] at hc0
    refine WC.skip ?_
    refine thenQ_n (hK2 _ _ ?_)
    refine WC.seq (fun K4 hK4 => ?_)
    refine WC.region ?_
    refine WL.op rfl (opW.moveV (v := v) rfl ?_)
    refine WL.op rfl (opW.appendNil (α := UInt8) rfl hS rfl ((hx.bel hS.old)) (by omega) (by simp only [maxLen]; omega) ?_)
    intro v13 w hw hS
    refine WL.op rfl (opW.moveI rfl ?_)
    refine WL.op rfl (opW.call (rshort_ok _ n hn) rfl ?_)
    rintro v15 w ⟨hn15, hw⟩
    replace hS := hS.newOwn hw hn15.1 hn15.2
    refine WL.op rfl (opW.appendOwn (α := UInt8) (v := v13) (xs := xs) rfl hS rfl (by first | exact .here | exact .there (.here) | exact .there (.there (.here)) | exact .there (.there (.there (.here))) | exact .there (.there (.there (.there (.here)))) | exact .there (.there (.there (.there (.there (.here))))) | exact .there (.there (.there (.there (.there (.there (.here)))))) | exact .there (.there (.there (.there (.there (.there (.there (.here))))))) | exact .there (.there (.there (.there (.there (.there (.there (.there (.here)))))))) | exact .there (.there (.there (.there (.there (.there (.there (.there (.there (.here))))))))) | exact .there (.there (.there (.there (.there (.there (.there (.there (.there (.there (.here)))))))))) | exact .there (.there (.there (.there (.there (.there (.there (.there (.there (.there (.there (.here))))))))))) | exact .there (.there (.there (.there (.there (.there (.there (.there (.there (.there (.there (.there (.here))))))))))))) (hS.sl (v := v15) (xs := shortB n) (by first | exact .here | exact .there (.here) | exact .there (.there (.here)) | exact .there (.there (.there (.here))) | exact .there (.there (.there (.there (.here)))) | exact .there (.there (.there (.there (.there (.here))))) | exact .there (.there (.there (.there (.there (.there (.here)))))) | exact .there (.there (.there (.there (.there (.there (.there (.here))))))) | exact .there (.there (.there (.there (.there (.there (.there (.there (.here)))))))) | exact .there (.there (.there (.there (.there (.there (.there (.there (.there (.here))))))))) | exact .there (.there (.there (.there (.there (.there (.there (.there (.there (.there (.here)))))))))) | exact .there (.there (.there (.there (.there (.there (.there (.there (.there (.there (.there (.here))))))))))) | exact .there (.there (.there (.there (.there (.there (.there (.there (.there (.there (.there (.there (.here)))))))))))))) (by have := len_shortB n; split at this <;> (try split at this) <;> omega) (by have := len_shortB n; simp only [maxLen]; split at this <;> (try split at this) <;> omega) ?_)
    intro v16 w hS; replace hS := hS _ (by first | exact .here | exact .there (.here) | exact .there (.there (.here)) | exact .there (.there (.there (.here))) | exact .there (.there (.there (.there (.here)))) | exact .there (.there (.there (.there (.there (.here))))) | exact .there (.there (.there (.there (.there (.there (.here)))))) | exact .there (.there (.there (.there (.there (.there (.there (.here))))))) | exact .there (.there (.there (.there (.there (.there (.there (.there (.here)))))))) | exact .there (.there (.there (.there (.there (.there (.there (.there (.there (.here))))))))) | exact .there (.there (.there (.there (.there (.there (.there (.there (.there (.there (.here)))))))))) | exact .there (.there (.there (.there (.there (.there (.there (.there (.there (.there (.there (.here))))))))))) | exact .there (.there (.there (.there (.there (.there (.there (.there (.there (.there (.there (.there (.here)))))))))))))
    refine WL.op rfl (opW.assignV (v := v16) rfl ?_)
    refine WL.op rfl (opW.assignI rfl ?_)
    refine WL.nil ?_
    refine thenQ_n (hK4 _ _ ?_)
    refine WC.ret ?_
    refine bodyQ_ret (.tmpV (v := v16) rfl (.tmpI rfl .nil)) ?_
    exact ⟨v16, rfl, hS.own_new (by first | exact .here | exact .there (.here) | exact .there (.there (.here)) | exact .there (.there (.there (.here))) | exact .there (.there (.there (.there (.here)))) | exact .there (.there (.there (.there (.there (.here))))) | exact .there (.there (.there (.there (.there (.there (.here)))))) | exact .there (.there (.there (.there (.there (.there (.there (.here))))))) | exact .there (.there (.there (.there (.there (.there (.there (.there (.here)))))))) | exact .there (.there (.there (.there (.there (.there (.there (.there (.there (.here))))))))) | exact .there (.there (.there (.there (.there (.there (.there (.there (.there (.there (.here)))))))))) | exact .there (.there (.there (.there (.there (.there (.there (.there (.there (.there (.there (.here))))))))))) | exact .there (.there (.there (.there (.there (.there (.there (.there (.there (.there (.there (.there (.here))))))))))))), hS.old⟩

theorem rput_short_err (w0 : World) (v : Value) (n : Int) (hn : n < 0 ∨ 65535 < n) : Ret Try.prog 11 #[v, .int .i64 n] w0 (fun u w' => u = .tuple #[.slice none 0 0, .int .i64 1] ∧ Bel w0 w') := by
  refine Ret.enter (args := [v, .int .i64 n]) Try.func11 rfl Try.ntmps11 Try.results11 rfl ?_
  have hS := St.start w0
  refine WC.seq (fun K1 hK1 => ?_)
  refine WC.region ?_
  refine WL.op rfl (opW.assignV (v := .slice none 0 0) rfl ?_)
  refine WL.op rfl (opW.assignI rfl ?_)
  refine WL.nil ?_
  refine thenQ_n (hK1 _ _ ?_)
  refine WC.seq (fun K2 hK2 => ?_)
  refine WC.seq (fun K3 hK3 => ?_)
  refine WC.region ?_
  refine WL.op rfl (opW.moveI rfl ?_)
  refine WL.op rfl (opW.lss rfl rfl ?_)
  refine WL.op rfl (opW.moveB rfl ?_)
  refine WL.gd _ 8 _ rfl rfl rfl rfl (fun hg9 => opW.moveI rfl ⟨rfl, Bel.refl _⟩) (fun w hw => ?_)
  replace hS := hS.bel hw
  refine WL.gd _ 8 _ rfl rfl rfl rfl (fun hg10 => opW.gtr (by first | exact gv_of rfl hg10 | rfl) rfl ⟨rfl, Bel.refl _⟩) (fun w hw => ?_)
  replace hS := hS.bel hw
  refine WL.op rfl (opW.pickOr rfl rfl (by first | rfl) ?_)
  refine WL.nil ?_
  refine thenQ_n (hK3 _ _ ?_)
  refine WC.cond _ rfl (fun hc0 => ?_) (fun hc0 => ?_)
  ·
    have hr0 := hc0
    try simp only [decide_eq_true_eq, decide_eq_false_iff_not, Bool.and_eq_true, Bool.or_eq_true, Bool.and_eq_false_iff, Bool.or_eq_false_iff, Bool.not_eq_true', Bool.not_eq_false', Int.not_lt, Int.not_le] at hc0
    refine WC.seq (fun K4 hK4 => ?_)
    refine WC.region ?_
    refine WL.op rfl (opW.assignV (v := .slice none 0 0) rfl ?_)
    refine WL.op rfl (opW.assignI rfl ?_)
    refine WL.nil ?_
    refine thenQ_n (hK4 _ _ ?_)
    refine WC.ret ?_
    refine thenQ_r ?_
    refine bodyQ_ret (.tmpV (v := .slice none 0 0) rfl (.tmpI rfl .nil)) ?_
    exact ⟨rfl, hS.old⟩
  ·
    have hr0 := hc0
    try simp only [decide_eq_true_eq, decide_eq_false_iff_not, Bool.and_eq_true, Bool.or_eq_true, Bool.and_eq_false_iff, Bool.or_eq_false_iff, Bool.not_eq_true', Bool.not_eq_false', Int.not_lt, Int.not_le] at hc0
    simp only [Bool.or_eq_false_iff, decide_eq_false_iff_not] at hr0
    omega

theorem rput_short_any (w0 : World) (v : Value) (xs : List UInt8) (n : Int) (hx : SlR w0 v xs) (hl : xs.length ≤ 900000) : Ret Try.prog 11 #[v, .int .i64 n] w0 (fun u w' => ∃ v', u = .tuple #[v', .int .i64 (psE n)] ∧ New w0 w' v' 5 (psL xs n) ∧ Bel w0 w') := by
  by_cases h : 0 ≤ n ∧ n ≤ 65535
  · obtain ⟨m, rfl⟩ := Int.eq_ofNat_of_zero_le h.1
    have := rput_short w0 v xs m hx hl (by omega)
    unfold psE psL
    rw [if_pos h, if_pos h]
    exact this
  · unfold psE psL
    rw [if_neg h, if_neg h]
    exact Ret.mono (rput_short_err w0 v n (by omega)) fun u w' hu => ⟨_, hu.1, New.nil _ _ _, hu.2⟩
theorem quo256 (y : Nat) (h : y ≤ 18446744073709551615) : IntKind.u64.wrap ((y : Int).tdiv 256) = ((y / 256 : Nat) : Int) := by
  rw [Int.tdiv_eq_ediv_of_nonneg (by omega), show (y : Int) / 256 = ((y / 256 : Nat) : Int) by omega]
  exact wrap_u64 (by omega)
theorem le_next (n k : Nat) : n / 2 ^ (8 * k) / 256 = n / 2 ^ (8 * (k + 1)) := by
  rw [Nat.div_div_eq_div_mul, show 2 ^ (8 * (k + 1)) = 2 ^ (8 * k) * 256 from by rw [Nat.mul_add, Nat.pow_add]]

theorem rput_le (w0 : World) (v : Value) (xs : List UInt8) (n : Nat) (many : Int) (hx : SlR w0 v xs) (hl : xs.length ≤ 900000) (hn : n ≤ 18446744073709551615) : Ret Try.prog 14 #[v, .int .u64 (n : Int), .int .i64 many] w0 (fun u w' => New w0 w' u 5 (xs ++ leB n (manyOf many)) ∧ Bel w0 w') := by
  refine Ret.enter (args := [v, .int .u64 (n : Int), .int .i64 many]) Try.func14 rfl Try.ntmps14 Try.results14 rfl ?_
  have hS := St.start w0
  refine WC.seq (fun K1 hK1 => ?_)
  refine WC.region ?_
  refine WL.op rfl (opW.assignV (v := .slice none 0 0) rfl ?_)
  refine WL.nil ?_
  refine thenQ_n (hK1 _ _ ?_)
  refine WC.mid (fun f w =>  Fits [(0, v), (1, .int .u64 (n : Int)), (2, .int .i64 (manyOf many : Int))] f ∧ St w0 [] w) ?_ ?_
  ·
    refine WC.seq (fun K2 hK2 => ?_)
    refine WC.region ?_
    refine WL.op rfl (opW.moveI rfl ?_)
    refine WL.op rfl (opW.lss rfl rfl ?_)
    refine WL.op rfl (opW.moveB rfl ?_)
    refine WL.gd _ 11 _ rfl rfl rfl rfl (fun hg12 => opW.moveI rfl ⟨rfl, Bel.refl _⟩) (fun w hw => ?_)
    replace hS := hS.bel hw
    refine WL.gd _ 11 _ rfl rfl rfl rfl (fun hg13 => opW.gtr (by first | exact gv_of rfl hg13 | rfl) rfl ⟨rfl, Bel.refl _⟩) (fun w hw => ?_)
    replace hS := hS.bel hw
    refine WL.op rfl (opW.pickOr rfl rfl (by first | rfl) ?_)
    refine WL.nil ?_
    refine thenQ_n (hK2 _ _ ?_)
    refine WC.cond _ rfl (fun hc0 => ?_) (fun hc0 => ?_)
    ·
      have hr0 := hc0
      try simp only [decide_eq_true_eq, decide_eq_false_iff_not, Bool.and_eq_true, Bool.or_eq_true, Bool.and_eq_false_iff, Bool.or_eq_false_iff, Bool.not_eq_true', Bool.not_eq_false', Int.not_lt, Int.not_le] at hc0
      refine WC.region ?_
      refine WL.op rfl (opW.assignI rfl ?_)
      refine WL.nil ?_
      refine thenQ_n ?_
      exact ⟨⟨rfl, rfl, congrArg (Value.int .i64) (by unfold manyOf; simp only [Bool.or_eq_true, Bool.or_eq_false_iff, decide_eq_true_eq, decide_eq_false_iff_not] at hr0; split <;> omega), trivial⟩, hS⟩
    ·
      have hr0 := hc0
      try simp only [decide_eq_true_eq, decide_eq_false_iff_not, Bool.and_eq_true, Bool.or_eq_true, Bool.and_eq_false_iff, Bool.or_eq_false_iff, Bool.not_eq_true', Bool.not_eq_false', Int.not_lt, Int.not_le] at hc0
      refine WC.skip ?_
      refine thenQ_n ?_
      exact ⟨⟨rfl, rfl, congrArg (Value.int .i64) (by unfold manyOf; simp only [Bool.or_eq_true, Bool.or_eq_false_iff, decide_eq_true_eq, decide_eq_false_iff_not] at hr0; split <;> omega), trivial⟩, hS⟩
  ·
    rintro f w ⟨hfit, hS⟩
    refine WC.fits _ hfit (fun g => ?_)
    clear hfit
    refine WC.seq (fun K3 hK3 => ?_)
    refine WC.region ?_
    refine WL.op rfl (opW.moveV (v := v) rfl ?_)
    refine WL.op rfl (opW.appendNil (α := UInt8) rfl hS rfl ((hx.bel hS.old)) (by omega) (by simp only [maxLen]; omega) ?_)
    intro v16 w hw hS
    refine WL.op rfl (opW.assignV (v := v16) rfl ?_)
    refine WL.nil ?_
    refine thenQ_n (hK3 _ _ ?_)
    refine WC.seq (fun K4 hK4 => ?_)
    refine WC.seq (fun K5 hK5 => ?_)
    refine WC.region ?_
    refine WL.op rfl (opW.assignI rfl ?_)
    refine WL.nil ?_
    refine thenQ_n (hK5 _ _ ?_)
    refine WC.block ?_
    refine WC.loop (fun q f w => ∃ (k : Nat) (vo : Value), Fits [(1, .int .u64 ((n / 2 ^ (8 * k) : Nat) : Int)), (2, .int .i64 (manyOf many : Int)), (7, vo), (8, .int .i64 (k : Int))] f ∧ St w0 [ownE vo 5 (xs ++ leB n k)] w ∧ k ≤ manyOf many ∧ q = manyOf many - k) (manyOf many) ?_ ?_
    ·
      exact ⟨0, v16, ⟨congrArg (fun i : Nat => Value.int .u64 (i : Int)) (by simp), rfl, rfl, rfl, trivial⟩, by simpa [leB] using hS, Nat.zero_le _, rfl⟩
    ·
      rintro q f w ⟨k, vo, hfit, hS, hk0, hm⟩
      refine WC.fits _ hfit (fun g => ?_)
      clear hfit
      have hmy := manyOf_le many
      have hll := leB_len n k
      refine WC.seq (fun K6 hK6 => ?_)
      refine WC.seq (fun K7 hK7 => ?_)
      refine WC.region ?_
      refine WL.op rfl (opW.moveI rfl ?_)
      refine WL.op rfl (opW.moveI rfl ?_)
      refine WL.op rfl (opW.lss rfl rfl ?_)
      refine WL.nil ?_
      refine thenQ_n (hK7 _ _ ?_)
      refine WC.cond _ rfl (fun hc1 => ?_) (fun hc1 => ?_)
      ·
        have hr1 := hc1
        try simp only [decide_eq_true_eq, decide_eq_false_iff_not, Bool.and_eq_true, Bool.or_eq_true, Bool.and_eq_false_iff, Bool.or_eq_false_iff, Bool.not_eq_true', Bool.not_eq_false', Int.not_lt, Int.not_le] at hc1
        refine WC.skip ?_
        refine thenQ_n (hK6 _ _ ?_)
        refine WC.seq (fun K8 hK8 => ?_)
        refine WC.block ?_
        refine WC.seq (fun K9 hK9 => ?_)
        refine WC.region ?_
        refine WL.op rfl (opW.moveV (v := vo) rfl ?_)
        refine WL.op rfl (opW.moveI rfl ?_)
        refine WL.op rfl (opW.rem rfl rfl (by omega) (show Int.tmod _ _ = (((n / 2 ^ (8 * k) : Nat) % 256 : Nat) : Int) from tmod_nat _ 256) ?_)
        refine WL.op rfl (opW.conv rfl ((show IntKind.u8.wrap _ = ((UInt8.ofNat (n / 2 ^ (8 * k) : Nat)).toNat : Int) from by rw [UInt8.toNat_ofNat', wrap_u8 (by omega)])) ?_)
        refine WL.op rfl (opW.buildSl hS (([UInt8.ofNat (n / 2 ^ (8 * k) : Nat)] : List UInt8)) [.int .u8 ((UInt8.ofNat (n / 2 ^ (8 * k) : Nat)).toNat : Int)] rfl rfl rfl rfl (by decide) ?_)
        intro b26 w hw hS
        refine WL.op rfl (opW.appendOwn (α := UInt8) rfl hS rfl (by first | exact .here | exact .there (.here) | exact .there (.there (.here)) | exact .there (.there (.there (.here))) | exact .there (.there (.there (.there (.here)))) | exact .there (.there (.there (.there (.there (.here))))) | exact .there (.there (.there (.there (.there (.there (.here)))))) | exact .there (.there (.there (.there (.there (.there (.there (.here))))))) | exact .there (.there (.there (.there (.there (.there (.there (.there (.here)))))))) | exact .there (.there (.there (.there (.there (.there (.there (.there (.there (.here))))))))) | exact .there (.there (.there (.there (.there (.there (.there (.there (.there (.there (.here)))))))))) | exact .there (.there (.there (.there (.there (.there (.there (.there (.there (.there (.there (.here))))))))))) | exact .there (.there (.there (.there (.there (.there (.there (.there (.there (.there (.there (.there (.here))))))))))))) (hS.sl (xs := ([UInt8.ofNat (n / 2 ^ (8 * k) : Nat)] : List UInt8)) (by first | exact .here | exact .there (.here) | exact .there (.there (.here)) | exact .there (.there (.there (.here))) | exact .there (.there (.there (.there (.here)))) | exact .there (.there (.there (.there (.there (.here))))) | exact .there (.there (.there (.there (.there (.there (.here)))))) | exact .there (.there (.there (.there (.there (.there (.there (.here))))))) | exact .there (.there (.there (.there (.there (.there (.there (.there (.here)))))))) | exact .there (.there (.there (.there (.there (.there (.there (.there (.there (.here))))))))) | exact .there (.there (.there (.there (.there (.there (.there (.there (.there (.there (.here)))))))))) | exact .there (.there (.there (.there (.there (.there (.there (.there (.there (.there (.there (.here))))))))))) | exact .there (.there (.there (.there (.there (.there (.there (.there (.there (.there (.there (.there (.here)))))))))))))) (by simp only [List.length_append, List.length_cons, List.length_nil]; omega) (by simp only [maxLen]; simp only [List.length_append, List.length_cons, List.length_nil]; omega) ?_)
        intro v27 w hS; replace hS := hS _ (by first | exact .here | exact .there (.here) | exact .there (.there (.here)) | exact .there (.there (.there (.here))) | exact .there (.there (.there (.there (.here)))) | exact .there (.there (.there (.there (.there (.here))))) | exact .there (.there (.there (.there (.there (.there (.here)))))) | exact .there (.there (.there (.there (.there (.there (.there (.here))))))) | exact .there (.there (.there (.there (.there (.there (.there (.there (.here)))))))) | exact .there (.there (.there (.there (.there (.there (.there (.there (.there (.here))))))))) | exact .there (.there (.there (.there (.there (.there (.there (.there (.there (.there (.here)))))))))) | exact .there (.there (.there (.there (.there (.there (.there (.there (.there (.there (.there (.here))))))))))) | exact .there (.there (.there (.there (.there (.there (.there (.there (.there (.there (.there (.there (.here)))))))))))))
        refine WL.op rfl (opW.assignV (v := v27) rfl ?_)
        refine WL.nil ?_
        refine thenQ_n (hK9 _ _ ?_)
        refine WC.region ?_
        refine WL.op rfl (opW.moveI rfl ?_)
        refine WL.op rfl (opW.quo rfl rfl (by omega) (quo256 (n / 2 ^ (8 * k) : Nat) (Nat.le_trans (Nat.div_le_self n (2 ^ (8 * k))) hn)) ?_)
        refine WL.op rfl (opW.assignI rfl ?_)
        refine WL.nil ?_
        refine blockQ_n ?_
        refine thenQ_n (hK8 _ _ ?_)
        refine WC.region ?_
        refine WL.op rfl (opW.moveI rfl ?_)
        refine WL.op rfl (opW.add rfl rfl (wrap_i64 (by omega)) ?_)
        refine WL.op rfl (opW.assignI rfl ?_)
        refine WL.nil ?_
        refine thenQ_n ?_
        refine ⟨manyOf many - (k + 1), by omega, k + 1, v27, ⟨congrArg (fun i : Nat => Value.int .u64 (i : Int)) (le_next n k), rfl, rfl, congrArg (Value.int .i64) (by omega), trivial⟩, ?_, by omega, rfl⟩
        rw [leB_succ, ← List.append_assoc]
        exact hS.sub (by repeat (first | with_reducible exact List.nil_sublist _ | with_reducible exact List.Sublist.refl _ | with_reducible refine List.Sublist.cons₂ _ ?_ | with_reducible refine List.Sublist.cons _ ?_))
      ·
        have hr1 := hc1
        try simp only [decide_eq_true_eq, decide_eq_false_iff_not, Bool.and_eq_true, Bool.or_eq_true, Bool.and_eq_false_iff, Bool.or_eq_false_iff, Bool.not_eq_true', Bool.not_eq_false', Int.not_lt, Int.not_le] at hc1
        refine WC.exit ?_
        refine thenQ_e ?_
        refine thenQ_e ?_
        refine blockQ_hit ?_
        refine thenQ_n (hK4 _ _ ?_)
        refine WC.seq (fun K10 hK10 => ?_)
        refine WC.region ?_
        refine WL.op rfl (opW.moveV (v := vo) rfl ?_)
        refine WL.op rfl (opW.assignV (v := vo) rfl ?_)
        refine WL.nil ?_
        refine thenQ_n (hK10 _ _ ?_)
        refine WC.ret ?_
        refine bodyQ_ret (.tmpV (v := vo) rfl .nil) ?_
        obtain rfl : k = manyOf many := by omega
        exact ⟨hS.own_new (by first | exact .here | exact .there (.here) | exact .there (.there (.here)) | exact .there (.there (.there (.here))) | exact .there (.there (.there (.there (.here)))) | exact .there (.there (.there (.there (.there (.here))))) | exact .there (.there (.there (.there (.there (.there (.here)))))) | exact .there (.there (.there (.there (.there (.there (.there (.here))))))) | exact .there (.there (.there (.there (.there (.there (.there (.there (.here)))))))) | exact .there (.there (.there (.there (.there (.there (.there (.there (.there (.here))))))))) | exact .there (.there (.there (.there (.there (.there (.there (.there (.there (.there (.here)))))))))) | exact .there (.there (.there (.there (.there (.there (.there (.there (.there (.there (.there (.here))))))))))) | exact .there (.there (.there (.there (.there (.there (.there (.there (.there (.there (.there (.there (.here))))))))))))), hS.old⟩

theorem put_law (w0 : World) (v : Value) (xs : List UInt8) (x : Num) (hx : SlR w0 v xs) (hxw : x.w ≤ 18446744073709551615) : Ret Try.prog 3 #[v, .agg (Enc.enc x)] w0 (fun r w' => r = .bool true ∧ Bel w0 w') := by
  refine Ret.enter (args := [v, .agg (Enc.enc x)]) Try.func3 rfl Try.ntmps3 Try.results3 rfl ?_
  have hS := St.start w0
  refine WC.seq (fun K1 hK1 => ?_)
  refine WC.region ?_
  refine WL.op rfl (opW.boxA hS rfl ?_)
  intro b3 w _ hS
  refine WL.op rfl (opW.assignB rfl ?_)
  refine WL.nil ?_
  refine thenQ_n (hK1 _ _ ?_)
  refine WC.seq (fun K2 hK2 => ?_)
  refine WC.region ?_
  refine WL.op rfl (opW.fieldAddrB rfl ?_)
  refine WL.op rfl (opW.loadV rfl (hS.ld1 (by first | exact .here | exact .there (.here) | exact .there (.there (.here)) | exact .there (.there (.there (.here))) | exact .there (.there (.there (.there (.here)))) | exact .there (.there (.there (.there (.there (.here))))) | exact .there (.there (.there (.there (.there (.there (.here)))))) | exact .there (.there (.there (.there (.there (.there (.there (.here))))))) | exact .there (.there (.there (.there (.there (.there (.there (.there (.here)))))))) | exact .there (.there (.there (.there (.there (.there (.there (.there (.there (.here))))))))) | exact .there (.there (.there (.there (.there (.there (.there (.there (.there (.there (.here)))))))))) | exact .there (.there (.there (.there (.there (.there (.there (.there (.there (.there (.there (.here))))))))))) | exact .there (.there (.there (.there (.there (.there (.there (.there (.there (.there (.there (.there (.here))))))))))))) (Num.at_n _)) ?_)
  refine WL.op rfl (opW.assignI rfl ?_)
  refine WL.nil ?_
  refine thenQ_n (hK2 _ _ ?_)
  refine WC.seq (fun K3 hK3 => ?_)
  refine WC.region ?_
  refine WL.op rfl (opW.fieldAddrB rfl ?_)
  refine WL.op rfl (opW.loadV rfl (hS.ld1 (by first | exact .here | exact .there (.here) | exact .there (.there (.here)) | exact .there (.there (.there (.here))) | exact .there (.there (.there (.there (.here)))) | exact .there (.there (.there (.there (.there (.here))))) | exact .there (.there (.there (.there (.there (.there (.here)))))) | exact .there (.there (.there (.there (.there (.there (.there (.here))))))) | exact .there (.there (.there (.there (.there (.there (.there (.there (.here)))))))) | exact .there (.there (.there (.there (.there (.there (.there (.there (.there (.here))))))))) | exact .there (.there (.there (.there (.there (.there (.there (.there (.there (.there (.here)))))))))) | exact .there (.there (.there (.there (.there (.there (.there (.there (.there (.there (.there (.here))))))))))) | exact .there (.there (.there (.there (.there (.there (.there (.there (.there (.there (.there (.there (.here))))))))))))) (Num.at_w _)) ?_)
  refine WL.op rfl (opW.assignI rfl ?_)
  refine WL.nil ?_
  refine thenQ_n (hK3 _ _ ?_)
  refine WC.seq (fun K4 hK4 => ?_)
  refine WC.region ?_
  refine WL.op rfl (opW.fieldAddrB rfl ?_)
  refine WL.op rfl (opW.loadV rfl (hS.ld1 (by first | exact .here | exact .there (.here) | exact .there (.there (.here)) | exact .there (.there (.there (.here))) | exact .there (.there (.there (.there (.here)))) | exact .there (.there (.there (.there (.there (.here))))) | exact .there (.there (.there (.there (.there (.there (.here)))))) | exact .there (.there (.there (.there (.there (.there (.there (.here))))))) | exact .there (.there (.there (.there (.there (.there (.there (.there (.here)))))))) | exact .there (.there (.there (.there (.there (.there (.there (.there (.there (.here))))))))) | exact .there (.there (.there (.there (.there (.there (.there (.there (.there (.there (.here)))))))))) | exact .there (.there (.there (.there (.there (.there (.there (.there (.there (.there (.there (.here))))))))))) | exact .there (.there (.there (.there (.there (.there (.there (.there (.there (.there (.there (.there (.here))))))))))))) (Num.at_many _)) ?_)
  refine WL.op rfl (opW.assignI rfl ?_)
  refine WL.nil ?_
  refine thenQ_n (hK4 _ _ ?_)
  refine WC.seq (fun K5 hK5 => ?_)
  refine WC.seq (fun K6 hK6 => ?_)
  refine WC.region ?_
  refine WL.op rfl (opW.moveV (v := v) rfl ?_)
  refine WL.op rfl (opW.lenV rfl ((hx.bel hS.old)) ?_)
  refine WL.op rfl (opW.gtr rfl rfl ?_)
  refine WL.nil ?_
  refine thenQ_n (hK6 _ _ ?_)
  refine WC.cond _ rfl (fun hc0 => ?_) (fun hc0 => ?_)
  ·
    have hr0 := hc0
    try simp only [decide_eq_true_eq, decide_eq_false_iff_not, Bool.and_eq_true, Bool.or_eq_true, Bool.and_eq_false_iff, Bool.or_eq_false_iff, Bool.not_eq_true', Bool.not_eq_false', Int.not_lt, Int.not_le] at hc0
    refine WC.seq (fun K7 hK7 => ?_)
    refine WC.region ?_
    refine WL.op rfl (opW.call (lives01 _) rfl ?_)
    rintro _ w ⟨rfl, hw⟩; replace hS := hS.bel hw
    refine WL.op rfl (opW.assignB rfl ?_)
    refine WL.nil ?_
    refine thenQ_n (hK7 _ _ ?_)
    refine WC.ret ?_
    refine thenQ_r ?_
    refine bodyQ_ret (.tmpB rfl .nil) ?_
    exact ⟨rfl, hS.old⟩
  ·
    have hr0 := hc0
    try simp only [decide_eq_true_eq, decide_eq_false_iff_not, Bool.and_eq_true, Bool.or_eq_true, Bool.and_eq_false_iff, Bool.or_eq_false_iff, Bool.not_eq_true', Bool.not_eq_false', Int.not_lt, Int.not_le] at hc0
    refine WC.skip ?_
    refine thenQ_n (hK5 _ _ ?_)
    refine WC.seq (fun K8 hK8 => ?_)
    refine WC.region ?_
    refine WL.op rfl (opW.moveV (v := v) rfl ?_)
    refine WL.op rfl (opW.call (twinBytes_ok _ v xs (hx.bel hS.old) (by omega)) rfl ?_)
    rintro _ w ⟨fv, rfl, hcf, hn, hw⟩
    replace hS := hS.newOwn hw hn.1 hn.2
    refine WL.op rfl (opW.assignV (v := (cutV fv 0 xs.length (xs.length + 3) (Enc.sz UInt8))) rfl ?_)
    refine WL.nil ?_
    refine thenQ_n (hK8 _ _ ?_)
    refine WC.seq (fun K9 hK9 => ?_)
    refine WC.region ?_
    refine WL.op rfl (opW.moveV (v := (cutV fv 0 xs.length (xs.length + 3) (Enc.sz UInt8))) rfl ?_)
    refine WL.op rfl (opW.moveI rfl ?_)
    refine WL.op rfl (opW.call (put_short_any _ _ xs x.n ((hS.sl (v := fv) (xs := (xs ++ [165, 165, 165])) (by first | exact .here | exact .there (.here) | exact .there (.there (.here)) | exact .there (.there (.there (.here))) | exact .there (.there (.there (.there (.here)))) | exact .there (.there (.there (.there (.there (.here))))) | exact .there (.there (.there (.there (.there (.there (.here)))))) | exact .there (.there (.there (.there (.there (.there (.there (.here))))))) | exact .there (.there (.there (.there (.there (.there (.there (.there (.here)))))))) | exact .there (.there (.there (.there (.there (.there (.there (.there (.there (.here))))))))) | exact .there (.there (.there (.there (.there (.there (.there (.there (.there (.there (.here)))))))))) | exact .there (.there (.there (.there (.there (.there (.there (.there (.there (.there (.there (.here))))))))))) | exact .there (.there (.there (.there (.there (.there (.there (.there (.there (.there (.there (.there (.here)))))))))))))).head (m := xs.length + 3) (by omega) (by omega)) (by omega)) rfl ?_)
    rintro _ w ⟨v9, rfl, hn9, hw⟩
    replace hS := hS.newOwn hw hn9.1 hn9.2
    refine WL.op rfl (opW.moveV (v := .tuple #[v9, .int .i64 (psE x.n)]) rfl ?_)
    refine WL.op rfl (opW.extract rfl rfl ?_)
    refine WL.op rfl (opW.extract rfl rfl ?_)
    refine WL.op rfl (opW.assignV (v := v9) rfl ?_)
    refine WL.op rfl (opW.assignI rfl ?_)
    refine WL.nil ?_
    refine thenQ_n (hK9 _ _ ?_)
    refine WC.seq (fun K10 hK10 => ?_)
    refine WC.region ?_
    refine WL.op rfl (opW.moveV (v := v) rfl ?_)
    refine WL.op rfl (opW.moveI rfl ?_)
    refine WL.op rfl (opW.call (rput_short_any _ _ xs x.n (hx.bel hS.old) (by omega)) rfl ?_)
    rintro _ w ⟨v11, rfl, hn11, hw⟩
    replace hS := hS.newOwn hw hn11.1 hn11.2
    refine WL.op rfl (opW.moveV (v := .tuple #[v11, .int .i64 (psE x.n)]) rfl ?_)
    refine WL.op rfl (opW.extract rfl rfl ?_)
    refine WL.op rfl (opW.extract rfl rfl ?_)
    refine WL.op rfl (opW.assignV (v := v11) rfl ?_)
    refine WL.op rfl (opW.assignI rfl ?_)
    refine WL.nil ?_
    refine thenQ_n (hK10 _ _ ?_)
    refine WC.seq (fun K11 hK11 => ?_)
    refine WC.region ?_
    refine WL.op rfl (opW.moveV (v := (cutV fv 0 xs.length (xs.length + 3) (Enc.sz UInt8))) rfl ?_)
    refine WL.op rfl (opW.moveI rfl ?_)
    refine WL.op rfl (opW.moveI rfl ?_)
    refine WL.op rfl (opW.call (put_le _ _ xs x.w x.many ((hS.sl (v := fv) (xs := (xs ++ [165, 165, 165])) (by first | exact .here | exact .there (.here) | exact .there (.there (.here)) | exact .there (.there (.there (.here))) | exact .there (.there (.there (.there (.here)))) | exact .there (.there (.there (.there (.there (.here))))) | exact .there (.there (.there (.there (.there (.there (.here)))))) | exact .there (.there (.there (.there (.there (.there (.there (.here))))))) | exact .there (.there (.there (.there (.there (.there (.there (.there (.here)))))))) | exact .there (.there (.there (.there (.there (.there (.there (.there (.there (.here))))))))) | exact .there (.there (.there (.there (.there (.there (.there (.there (.there (.there (.here)))))))))) | exact .there (.there (.there (.there (.there (.there (.there (.there (.there (.there (.there (.here))))))))))) | exact .there (.there (.there (.there (.there (.there (.there (.there (.there (.there (.there (.there (.here)))))))))))))).head (m := xs.length + 3) (by omega) (by omega)) (by omega)) rfl ?_)
    rintro v13 w ⟨hn13, hw⟩
    replace hS := hS.newOwn hw hn13.1 hn13.2
    refine WL.op rfl (opW.assignV (v := v13) rfl ?_)
    refine WL.nil ?_
    refine thenQ_n (hK11 _ _ ?_)
    refine WC.seq (fun K12 hK12 => ?_)
    refine WC.seq (fun K13 hK13 => ?_)
    refine WC.region ?_
    refine WL.op rfl (opW.moveV (v := v9) rfl ?_)
    refine WL.op rfl (opW.moveV (v := v11) rfl ?_)
    refine WL.op rfl (opW.call (sameBytes_ok _ v9 v11 (psL xs x.n) (psL xs x.n) (hS.sl (v := v9) (xs := (psL xs x.n)) (by first | exact .here | exact .there (.here) | exact .there (.there (.here)) | exact .there (.there (.there (.here))) | exact .there (.there (.there (.there (.here)))) | exact .there (.there (.there (.there (.there (.here))))) | exact .there (.there (.there (.there (.there (.there (.here)))))) | exact .there (.there (.there (.there (.there (.there (.there (.here))))))) | exact .there (.there (.there (.there (.there (.there (.there (.there (.here)))))))) | exact .there (.there (.there (.there (.there (.there (.there (.there (.there (.here))))))))) | exact .there (.there (.there (.there (.there (.there (.there (.there (.there (.there (.here)))))))))) | exact .there (.there (.there (.there (.there (.there (.there (.there (.there (.there (.there (.here))))))))))) | exact .there (.there (.there (.there (.there (.there (.there (.there (.there (.there (.there (.there (.here)))))))))))))) (hS.sl (v := v11) (xs := (psL xs x.n)) (by first | exact .here | exact .there (.here) | exact .there (.there (.here)) | exact .there (.there (.there (.here))) | exact .there (.there (.there (.there (.here)))) | exact .there (.there (.there (.there (.there (.here))))) | exact .there (.there (.there (.there (.there (.there (.here)))))) | exact .there (.there (.there (.there (.there (.there (.there (.here))))))) | exact .there (.there (.there (.there (.there (.there (.there (.there (.here)))))))) | exact .there (.there (.there (.there (.there (.there (.there (.there (.there (.here))))))))) | exact .there (.there (.there (.there (.there (.there (.there (.there (.there (.there (.here)))))))))) | exact .there (.there (.there (.there (.there (.there (.there (.there (.there (.there (.there (.here))))))))))) | exact .there (.there (.there (.there (.there (.there (.there (.there (.there (.there (.there (.there (.here))))))))))))))) rfl ?_)
    rintro _ w ⟨rfl, hw⟩; replace hS := hS.bel hw
    rw [decide_eq_true (rfl : (psL xs x.n) = (psL xs x.n))]
    refine WL.op rfl (opW.not rfl ?_)
    refine WL.op rfl (opW.moveB rfl ?_)
    refine WL.gT 47 rfl rfl rfl (WL.op rfl (opW.moveI rfl ?_))
    refine WL.gT 47 rfl rfl rfl (WL.op rfl (opW.moveI rfl ?_))
    refine WL.gT 47 rfl rfl rfl (WL.op rfl (opW.boolF (by simp) (opW.neq rfl rfl ⟨rfl, rfl⟩) ?_))
    refine WL.op rfl (opW.pickT rfl rfl ?_)
    refine WL.op rfl (opW.moveB rfl ?_)
    refine WL.gT 52 rfl rfl rfl (WL.op rfl (opW.moveV (v := v13) rfl ?_))
    refine WL.gT 52 rfl rfl rfl (WL.op rfl (opW.moveV (v := v) rfl ?_))
    refine WL.gT 52 rfl rfl rfl (WL.op rfl (opW.moveI rfl ?_))
    refine WL.gT 52 rfl rfl rfl (WL.op rfl (opW.moveI rfl ?_))
    refine WL.gT 52 rfl rfl rfl (WL.op rfl (opW.call (rput_le _ _ xs x.w x.many (hx.bel hS.old) (by omega) hxw) rfl ?_))
    rintro v57 w ⟨hn57, hw⟩
    replace hS := hS.newOwn hw hn57.1 hn57.2
    refine WL.gT 52 rfl rfl rfl (WL.op rfl (opW.call (sameBytes_ok _ v13 v57 (xs ++ leB x.w (manyOf x.many)) (xs ++ leB x.w (manyOf x.many)) (hS.sl (v := v13) (xs := (xs ++ leB x.w (manyOf x.many))) (by first | exact .here | exact .there (.here) | exact .there (.there (.here)) | exact .there (.there (.there (.here))) | exact .there (.there (.there (.there (.here)))) | exact .there (.there (.there (.there (.there (.here))))) | exact .there (.there (.there (.there (.there (.there (.here)))))) | exact .there (.there (.there (.there (.there (.there (.there (.here))))))) | exact .there (.there (.there (.there (.there (.there (.there (.there (.here)))))))) | exact .there (.there (.there (.there (.there (.there (.there (.there (.there (.here))))))))) | exact .there (.there (.there (.there (.there (.there (.there (.there (.there (.there (.here)))))))))) | exact .there (.there (.there (.there (.there (.there (.there (.there (.there (.there (.there (.here))))))))))) | exact .there (.there (.there (.there (.there (.there (.there (.there (.there (.there (.there (.there (.here)))))))))))))) (hS.sl (v := v57) (xs := (xs ++ leB x.w (manyOf x.many))) (by first | exact .here | exact .there (.here) | exact .there (.there (.here)) | exact .there (.there (.there (.here))) | exact .there (.there (.there (.there (.here)))) | exact .there (.there (.there (.there (.there (.here))))) | exact .there (.there (.there (.there (.there (.there (.here)))))) | exact .there (.there (.there (.there (.there (.there (.there (.here))))))) | exact .there (.there (.there (.there (.there (.there (.there (.there (.here)))))))) | exact .there (.there (.there (.there (.there (.there (.there (.there (.there (.here))))))))) | exact .there (.there (.there (.there (.there (.there (.there (.there (.there (.there (.here)))))))))) | exact .there (.there (.there (.there (.there (.there (.there (.there (.there (.there (.there (.here))))))))))) | exact .there (.there (.there (.there (.there (.there (.there (.there (.there (.there (.there (.there (.here))))))))))))))) rfl ?_))
    rintro _ w ⟨rfl, hw⟩; replace hS := hS.bel hw
    rw [decide_eq_true (rfl : (xs ++ leB x.w (manyOf x.many)) = (xs ++ leB x.w (manyOf x.many)))]
    refine WL.gT 52 rfl rfl rfl (WL.op rfl (opW.not rfl ?_))
    refine WL.op rfl (opW.pickT rfl rfl ?_)
    refine WL.op rfl (opW.moveB rfl ?_)
    refine WL.gT 61 rfl rfl rfl (WL.op rfl (opW.moveV (v := (cutV fv 0 xs.length (xs.length + 3) (Enc.sz UInt8))) rfl ?_))
    refine WL.gT 61 rfl rfl rfl (WL.op rfl (opW.moveV (v := v) rfl ?_))
    refine WL.gT 61 rfl rfl rfl (WL.op rfl (opW.call (leftBytes_ok _ fv _ xs hcf (hS.sl (v := fv) (xs := (xs ++ [165, 165, 165])) (by first | exact .here | exact .there (.here) | exact .there (.there (.here)) | exact .there (.there (.there (.here))) | exact .there (.there (.there (.there (.here)))) | exact .there (.there (.there (.there (.there (.here))))) | exact .there (.there (.there (.there (.there (.there (.here)))))) | exact .there (.there (.there (.there (.there (.there (.there (.here))))))) | exact .there (.there (.there (.there (.there (.there (.there (.there (.here)))))))) | exact .there (.there (.there (.there (.there (.there (.there (.there (.there (.here))))))))) | exact .there (.there (.there (.there (.there (.there (.there (.there (.there (.there (.here)))))))))) | exact .there (.there (.there (.there (.there (.there (.there (.there (.there (.there (.there (.here))))))))))) | exact .there (.there (.there (.there (.there (.there (.there (.there (.there (.there (.there (.there (.here)))))))))))))) (hx.bel hS.old)) rfl ?_))
    rintro _ w ⟨rfl, hw⟩; replace hS := hS.bel hw
    refine WL.gT 61 rfl rfl rfl (WL.op rfl (opW.not rfl ?_))
    refine WL.op rfl (opW.pickT rfl rfl ?_)
    refine WL.nil ?_
    refine thenQ_n (hK13 _ _ ?_)
    refine WC.cond _ rfl (fun hc1 => ?_) (fun hc1 => ?_)
    ·
      have hr1 := hc1
      try simp only [decide_eq_true_eq, decide_eq_false_iff_not, Bool.and_eq_true, Bool.or_eq_true, Bool.and_eq_false_iff, Bool.or_eq_false_iff, Bool.not_eq_true', Bool.not_eq_false', Int.not_lt, Int.not_le] at hc1
      simp at hr1
    ·
      have hr1 := hc1
      try simp only [decide_eq_true_eq, decide_eq_false_iff_not, Bool.and_eq_true, Bool.or_eq_true, Bool.and_eq_false_iff, Bool.or_eq_false_iff, Bool.not_eq_true', Bool.not_eq_false', Int.not_lt, Int.not_le] at hc1
      refine WC.skip ?_
      refine thenQ_n (hK12 _ _ ?_)
      refine WC.seq (fun K14 hK14 => ?_)
      refine WC.region ?_
      refine WL.op rfl (opW.buildE (r := ((BookS.mk ⟨none, 0, 0⟩) : BookS)) (ps := BookS.parts ((BookS.mk ⟨none, 0, 0⟩) : BookS)) (BookS.enc_eq _) (by first | rfl | (simp only [enc_vset, enc_vz, ShByte.enc_eq, ShByte.parts, BookS.enc_eq, BookS.parts]; rfl)) (by (repeat' (first | exact trivial | refine And.intro ?_ ?_)) <;> first | rfl | exact Enc.size_eq _ | (simp; done)) ?_)
      refine WL.op rfl (opW.allocA hS ?_)
      intro b14 w _ hS
      refine WL.op0 (opW.storeE hS rfl rfl (by first | exact .here | exact .there (.here) | exact .there (.there (.here)) | exact .there (.there (.there (.here))) | exact .there (.there (.there (.there (.here)))) | exact .there (.there (.there (.there (.there (.here))))) | exact .there (.there (.there (.there (.there (.there (.here)))))) | exact .there (.there (.there (.there (.there (.there (.there (.here))))))) | exact .there (.there (.there (.there (.there (.there (.there (.there (.here)))))))) | exact .there (.there (.there (.there (.there (.there (.there (.there (.there (.here))))))))) | exact .there (.there (.there (.there (.there (.there (.there (.there (.there (.there (.here)))))))))) | exact .there (.there (.there (.there (.there (.there (.there (.there (.there (.there (.there (.here))))))))))) | exact .there (.there (.there (.there (.there (.there (.there (.there (.there (.there (.there (.there (.here))))))))))))) (by first | rfl | exact Enc.size_eq _) ?_)
      intro w hS; replace hS := hS _ (by first | exact .here | exact .there (.here) | exact .there (.there (.here)) | exact .there (.there (.there (.here))) | exact .there (.there (.there (.there (.here)))) | exact .there (.there (.there (.there (.there (.here))))) | exact .there (.there (.there (.there (.there (.there (.here)))))) | exact .there (.there (.there (.there (.there (.there (.there (.here))))))) | exact .there (.there (.there (.there (.there (.there (.there (.there (.here)))))))) | exact .there (.there (.there (.there (.there (.there (.there (.there (.there (.here))))))))) | exact .there (.there (.there (.there (.there (.there (.there (.there (.there (.there (.here)))))))))) | exact .there (.there (.there (.there (.there (.there (.there (.there (.there (.there (.there (.here))))))))))) | exact .there (.there (.there (.there (.there (.there (.there (.there (.there (.there (.there (.there (.here)))))))))))))
      refine WL.nil ?_
      refine thenQ_n (hK14 _ _ ?_)
      refine WC.seq (fun K15 hK15 => ?_)
      refine WC.region ?_
      replace hS := hS.ownFront (v := fv) (E := 5) (xs := (xs ++ [165, 165, 165])) (k := xs.length) (m := xs.length + 3) (by simp) (by omega) (by omega) (by first | exact .here | exact .there (.here) | exact .there (.there (.here)) | exact .there (.there (.there (.here))) | exact .there (.there (.there (.there (.here)))) | exact .there (.there (.there (.there (.there (.here))))) | exact .there (.there (.there (.there (.there (.there (.here)))))) | exact .there (.there (.there (.there (.there (.there (.there (.here))))))) | exact .there (.there (.there (.there (.there (.there (.there (.there (.here)))))))) | exact .there (.there (.there (.there (.there (.there (.there (.there (.there (.here))))))))) | exact .there (.there (.there (.there (.there (.there (.there (.there (.there (.there (.here)))))))))) | exact .there (.there (.there (.there (.there (.there (.there (.there (.there (.there (.there (.here))))))))))) | exact .there (.there (.there (.there (.there (.there (.there (.there (.there (.there (.there (.there (.here)))))))))))))
      simp only [List.take_left] at hS
      replace hS := (hS.pick (e := blkE b14 (Enc.enc (BookS.mk ⟨none, 0, 0⟩)) 35) (by first | exact .here | exact .there (.here) | exact .there (.there (.here)) | exact .there (.there (.there (.here))) | exact .there (.there (.there (.there (.here)))) | exact .there (.there (.there (.there (.there (.here))))) | exact .there (.there (.there (.there (.there (.there (.here)))))) | exact .there (.there (.there (.there (.there (.there (.there (.here))))))) | exact .there (.there (.there (.there (.there (.there (.there (.there (.here)))))))) | exact .there (.there (.there (.there (.there (.there (.there (.there (.there (.here))))))))) | exact .there (.there (.there (.there (.there (.there (.there (.there (.there (.there (.here)))))))))) | exact .there (.there (.there (.there (.there (.there (.there (.there (.there (.there (.there (.here))))))))))) | exact .there (.there (.there (.there (.there (.there (.there (.there (.there (.there (.there (.there (.here)))))))))))))).bkNew
      refine WL.op rfl (opW.moveV (v := (cutV fv 0 xs.length (xs.length + 3) (Enc.sz UInt8))) rfl ?_)
      refine WL.op rfl (opW.call (bkBytes_ok _ _ _ b14 ⟨none, 0, 0⟩ [] (cutV fv 0 xs.length (xs.length + 3) (Enc.sz UInt8)) xs (by simp) ((hS.pick (e := ownE (cutV fv 0 xs.length (xs.length + 3) (Enc.sz UInt8)) 5 xs) (by first | exact .here | exact .there (.here) | exact .there (.there (.here)) | exact .there (.there (.there (.here))) | exact .there (.there (.there (.there (.here)))) | exact .there (.there (.there (.there (.there (.here))))) | exact .there (.there (.there (.there (.there (.there (.here)))))) | exact .there (.there (.there (.there (.there (.there (.there (.here))))))) | exact .there (.there (.there (.there (.there (.there (.there (.there (.here)))))))) | exact .there (.there (.there (.there (.there (.there (.there (.there (.there (.here))))))))) | exact .there (.there (.there (.there (.there (.there (.there (.there (.there (.there (.here)))))))))) | exact .there (.there (.there (.there (.there (.there (.there (.there (.there (.there (.there (.here))))))))))) | exact .there (.there (.there (.there (.there (.there (.there (.there (.there (.there (.there (.there (.here)))))))))))))).pick (e := bkE b14 ⟨none, 0, 0⟩ []) (by first | exact .here | exact .there (.here) | exact .there (.there (.here)) | exact .there (.there (.there (.here))) | exact .there (.there (.there (.there (.here)))) | exact .there (.there (.there (.there (.there (.here))))) | exact .there (.there (.there (.there (.there (.there (.here)))))) | exact .there (.there (.there (.there (.there (.there (.there (.here))))))) | exact .there (.there (.there (.there (.there (.there (.there (.there (.here)))))))) | exact .there (.there (.there (.there (.there (.there (.there (.there (.there (.here))))))))) | exact .there (.there (.there (.there (.there (.there (.there (.there (.there (.there (.here)))))))))) | exact .there (.there (.there (.there (.there (.there (.there (.there (.there (.there (.there (.here))))))))))) | exact .there (.there (.there (.there (.there (.there (.there (.there (.there (.there (.there (.there (.here))))))))))))))) rfl ?_)
      rintro v69 w ⟨sv1, pg1, hS⟩
      refine WL.nil ?_
      refine thenQ_n (hK15 _ _ ?_)
      refine WC.seq (fun K16 hK16 => ?_)
      refine WC.region ?_
      refine WL.op rfl (opW.moveV (v := v9) rfl ?_)
      refine WL.op rfl (opW.call (bkBytes_ok _ _ _ b14 sv1 ([] ++ [pg1]) v9 (psL xs x.n) (by simp) ((hS.pick (e := ownE v9 5 (psL xs x.n)) (by first | exact .here | exact .there (.here) | exact .there (.there (.here)) | exact .there (.there (.there (.here))) | exact .there (.there (.there (.there (.here)))) | exact .there (.there (.there (.there (.there (.here))))) | exact .there (.there (.there (.there (.there (.there (.here)))))) | exact .there (.there (.there (.there (.there (.there (.there (.here))))))) | exact .there (.there (.there (.there (.there (.there (.there (.there (.here)))))))) | exact .there (.there (.there (.there (.there (.there (.there (.there (.there (.here))))))))) | exact .there (.there (.there (.there (.there (.there (.there (.there (.there (.there (.here)))))))))) | exact .there (.there (.there (.there (.there (.there (.there (.there (.there (.there (.there (.here))))))))))) | exact .there (.there (.there (.there (.there (.there (.there (.there (.there (.there (.there (.there (.here)))))))))))))).pick (e := bkE b14 sv1 ([] ++ [pg1])) (by first | exact .here | exact .there (.here) | exact .there (.there (.here)) | exact .there (.there (.there (.here))) | exact .there (.there (.there (.there (.here)))) | exact .there (.there (.there (.there (.there (.here))))) | exact .there (.there (.there (.there (.there (.there (.here)))))) | exact .there (.there (.there (.there (.there (.there (.there (.here))))))) | exact .there (.there (.there (.there (.there (.there (.there (.there (.here)))))))) | exact .there (.there (.there (.there (.there (.there (.there (.there (.there (.here))))))))) | exact .there (.there (.there (.there (.there (.there (.there (.there (.there (.there (.here)))))))))) | exact .there (.there (.there (.there (.there (.there (.there (.there (.there (.there (.there (.here))))))))))) | exact .there (.there (.there (.there (.there (.there (.there (.there (.there (.there (.there (.there (.here))))))))))))))) rfl ?_)
      rintro v71 w ⟨sv2, pg2, hS⟩
      refine WL.nil ?_
      refine thenQ_n (hK16 _ _ ?_)
      refine WC.seq (fun K17 hK17 => ?_)
      refine WC.region ?_
      refine WL.op rfl (opW.moveV (v := v13) rfl ?_)
      refine WL.op rfl (opW.call (bkBytes_ok _ _ _ b14 sv2 ([] ++ [pg1] ++ [pg2]) v13 (xs ++ leB x.w (manyOf x.many)) (by simp) ((hS.pick (e := ownE v13 5 (xs ++ leB x.w (manyOf x.many))) (by first | exact .here | exact .there (.here) | exact .there (.there (.here)) | exact .there (.there (.there (.here))) | exact .there (.there (.there (.there (.here)))) | exact .there (.there (.there (.there (.there (.here))))) | exact .there (.there (.there (.there (.there (.there (.here)))))) | exact .there (.there (.there (.there (.there (.there (.there (.here))))))) | exact .there (.there (.there (.there (.there (.there (.there (.there (.here)))))))) | exact .there (.there (.there (.there (.there (.there (.there (.there (.there (.here))))))))) | exact .there (.there (.there (.there (.there (.there (.there (.there (.there (.there (.here)))))))))) | exact .there (.there (.there (.there (.there (.there (.there (.there (.there (.there (.there (.here))))))))))) | exact .there (.there (.there (.there (.there (.there (.there (.there (.there (.there (.there (.there (.here)))))))))))))).pick (e := bkE b14 sv2 ([] ++ [pg1] ++ [pg2])) (by first | exact .here | exact .there (.here) | exact .there (.there (.here)) | exact .there (.there (.there (.here))) | exact .there (.there (.there (.there (.here)))) | exact .there (.there (.there (.there (.there (.here))))) | exact .there (.there (.there (.there (.there (.there (.here)))))) | exact .there (.there (.there (.there (.there (.there (.there (.here))))))) | exact .there (.there (.there (.there (.there (.there (.there (.there (.here)))))))) | exact .there (.there (.there (.there (.there (.there (.there (.there (.there (.here))))))))) | exact .there (.there (.there (.there (.there (.there (.there (.there (.there (.there (.here)))))))))) | exact .there (.there (.there (.there (.there (.there (.there (.there (.there (.there (.there (.here))))))))))) | exact .there (.there (.there (.there (.there (.there (.there (.there (.there (.there (.there (.there (.here))))))))))))))) rfl ?_)
      rintro v73 w ⟨sv3, pg3, hS⟩
      refine WL.nil ?_
      refine thenQ_n (hK17 _ _ ?_)
      refine WC.seq (fun K18 hK18 => ?_)
      refine WC.region ?_
      refine WL.op rfl (opW.call (apart_ok _ _ _ b14 _ _ (hS.pick (by first | exact .here | exact .there (.here) | exact .there (.there (.here)) | exact .there (.there (.there (.here))) | exact .there (.there (.there (.there (.here)))) | exact .there (.there (.there (.there (.there (.here))))) | exact .there (.there (.there (.there (.there (.there (.here)))))) | exact .there (.there (.there (.there (.there (.there (.there (.here))))))) | exact .there (.there (.there (.there (.there (.there (.there (.there (.here)))))))) | exact .there (.there (.there (.there (.there (.there (.there (.there (.there (.here))))))))) | exact .there (.there (.there (.there (.there (.there (.there (.there (.there (.there (.here)))))))))) | exact .there (.there (.there (.there (.there (.there (.there (.there (.there (.there (.there (.here))))))))))) | exact .there (.there (.there (.there (.there (.there (.there (.there (.there (.there (.there (.there (.here))))))))))))))) rfl ?_)
      rintro _ w ⟨rfl, hS⟩
      refine WL.op rfl (opW.moveB rfl ?_)
      refine WL.gT 75 rfl rfl rfl (WL.op rfl (opW.call (lives01 _) rfl ?_))
      rintro _ w ⟨rfl, hw⟩; replace hS := hS.bel hw
      refine WL.op rfl (opW.pickT rfl rfl ?_)
      refine WL.op rfl (opW.assignB rfl ?_)
      refine WL.nil ?_
      refine thenQ_n (hK18 _ _ ?_)
      refine WC.ret ?_
      refine bodyQ_ret (.tmpB rfl .nil) ?_
      exact ⟨rfl, hS.old⟩

end Go.Fer
