/- the document: numbers, may, a list -/
import Derived.Test.YtmiacbnmifejdaaH
set_option linter.all false
namespace Go.Fer
open Go Go.Proofs Go.RowKit

theorem len_shortB (n : Nat) : (shortB n).length = if n < 128 then 1 else if n < 16384 then 2 else 3 := by
  unfold shortB; split
  · rfl
  · split <;> rfl
/-- a number of so many bytes -/
def leB (n m : Nat) : List UInt8 := (List.range m).map fun i => UInt8.ofNat (n / 2 ^ (8 * i))
theorem leB_succ (n k : Nat) : leB n (k + 1) = leB n k ++ [UInt8.ofNat (n / 2 ^ (8 * k))] := by simp [leB, List.range_succ]
theorem leB_len (n k : Nat) : (leB n k).length = k := by simp [leB]
theorem shr_8k (n k : Nat) (hk : k ≤ 8) : Int.fdiv (n : Int) (2 ^ (min (Int.toNat (8 * (k : Int))) IntKind.u64.bits)) = ((n / 2 ^ (8 * k) : Nat) : Int) := by
  have e : (8 * (k : Int)) = ((8 * k : Nat) : Int) := by omega
  rw [e]; exact shr_nat (by simp only [IntKind.bits]; omega)
def manyOf (m : Int) : Nat := if m < 1 ∨ 8 < m then 8 else m.toNat
theorem manyOf_le (m : Int) : manyOf m ≤ 8 := by unfold manyOf; split <;> omega

theorem ref_get_short (w0 : World) (v : Value) (b : List UInt8) (hx : SlR w0 v b) : Ret Try.prog 46 #[v] w0 (fun u w' => u = .tuple #[.int .i64 (gs b 0 0).1, .int .i64 (gs b 0 0).2.1, .int .i64 (gs b 0 0).2.2] ∧ Bel w0 w') := by
  refine Ret.enter (args := [v]) Try.func46 rfl Try.ntmps46 Try.results46 rfl ?_
  have hS := St.start w0
  refine WC.seq (fun K1 hK1 => ?_)
  refine WC.region ?_
  refine WL.op rfl (opW.assignI rfl ?_)
  refine WL.op rfl (opW.assignI rfl ?_)
  refine WL.op rfl (opW.assignI rfl ?_)
  refine WL.nil ?_
  refine thenQ_n (hK1 _ _ ?_)
  refine WC.seq (fun K2 hK2 => ?_)
  refine WC.region ?_
  refine WL.op rfl (opW.assignI rfl ?_)
  refine WL.nil ?_
  refine thenQ_n (hK2 _ _ ?_)
  refine WC.seq (fun K3 hK3 => ?_)
  refine WC.region ?_
  refine WL.op rfl (opW.assignI rfl ?_)
  refine WL.nil ?_
  refine thenQ_n (hK3 _ _ ?_)
  refine WC.seq (fun K4 hK4 => ?_)
  refine WC.region ?_
  refine WL.op rfl (opW.assignI rfl ?_)
  refine WL.nil ?_
  refine thenQ_n (hK4 _ _ ?_)
  refine WC.block ?_
  refine WC.loop (fun m f w => ∃ k n : Nat, Fits [(0, v), (5, .int .i64 (n : Int)), (6, .int .i64 ((2 ^ (7 * k) : Nat) : Int)), (7, .int .i64 (k : Int))] f ∧ St w0 [] w ∧ gs (b.drop k) k n = gs b 0 0 ∧ n < 2 ^ (7 * k) ∧ k ≤ 2 ∧ m = b.length - k) (b.length) ?_ ?_
  ·
    exact ⟨0, 0, ⟨rfl, rfl, rfl, rfl, trivial⟩, hS, rfl, by decide, by omega, rfl⟩
  ·
    rintro m f w ⟨k, n, hfit, hS, hg, hn, hk2, hm⟩
    refine WC.fits _ hfit (fun g => ?_)
    clear hfit
    refine WC.seq (fun K5 hK5 => ?_)
    refine WC.block ?_
    refine WC.seq (fun K6 hK6 => ?_)
    refine WC.seq (fun K7 hK7 => ?_)
    refine WC.region ?_
    refine WL.op rfl (opW.moveI rfl ?_)
    refine WL.op rfl (opW.moveV (v := v) rfl ?_)
    refine WL.op rfl (opW.lenV rfl ((hx.bel hS.old)) ?_)
    refine WL.op rfl (opW.geq rfl rfl ?_)
    refine WL.nil ?_
    refine thenQ_n (hK7 _ _ ?_)
    refine WC.cond _ rfl (fun hc0 => ?_) (fun hc0 => ?_)
    ·
      have hr0 := hc0
      try simp only [decide_eq_true_eq, decide_eq_false_iff_not, Bool.and_eq_true, Bool.or_eq_true, Bool.and_eq_false_iff, Bool.or_eq_false_iff, Bool.not_eq_true', Bool.not_eq_false', Int.not_lt, Int.not_le] at hc0
      refine WC.seq (fun K8 hK8 => ?_)
      refine WC.region ?_
      refine WL.op rfl (opW.assignI rfl ?_)
      refine WL.op rfl (opW.assignI rfl ?_)
      refine WL.op rfl (opW.assignI rfl ?_)
      refine WL.nil ?_
      refine thenQ_n (hK8 _ _ ?_)
      refine WC.ret ?_
      refine thenQ_r ?_
      refine blockQ_r ?_
      refine thenQ_r ?_
      refine thenQ_r ?_
      refine blockQ_r ?_
      refine bodyQ_ret (.tmpI rfl (.tmpI rfl (.tmpI rfl .nil))) ?_
      refine ⟨?_, hS.old⟩
      rw [← hg, gs_end (by omega)]
      rfl
    ·
      have hr0 := hc0
      try simp only [decide_eq_true_eq, decide_eq_false_iff_not, Bool.and_eq_true, Bool.or_eq_true, Bool.and_eq_false_iff, Bool.or_eq_false_iff, Bool.not_eq_true', Bool.not_eq_false', Int.not_lt, Int.not_le] at hc0
      have hk : k < b.length := by omega
      have hlt := u8_lt b[k]
      have hle := hx.le
      simp only [maxLen] at hle
      have hp1 : 2 ^ (7 * (k + 1)) = 128 * 2 ^ (7 * k) := by rw [Nat.mul_add, Nat.pow_add, Nat.mul_comm]
      have hp2 : 2 ^ (7 * k) ≤ 2 ^ 14 := Nat.pow_le_pow_right (by omega) (by omega)
      have hp3 : b[k].toNat % 128 * 2 ^ (7 * k) ≤ 127 * 2 ^ (7 * k) := Nat.mul_le_mul_right _ (by omega)
      have hp4 : (((b[k].toNat % 128 : Nat) : Int) * ((2 ^ (7 * k) : Nat) : Int)) = ((b[k].toNat % 128 * 2 ^ (7 * k) : Nat) : Int) := by simp
      generalize hP : 2 ^ (7 * k) = PP at *
      refine WC.skip ?_
      refine thenQ_n (hK6 _ _ ?_)
      refine WC.seq (fun K9 hK9 => ?_)
      refine WC.region ?_
      refine WL.op rfl (opW.moveV (v := v) rfl ?_)
      refine WL.op rfl (opW.moveI rfl ?_)
      refine WL.op rfl (opW.idxV rfl ((hx.bel hS.old)) rfl (by omega) ?_)
      refine WL.op rfl (opW.loadV rfl (((hx.bel hS.old).isPt hk).ld rfl) ?_)
      refine WL.op rfl (opW.conv rfl (wrap_i64 (by omega)) ?_)
      refine WL.op rfl (opW.assignI rfl ?_)
      refine WL.nil ?_
      refine thenQ_n (hK9 _ _ ?_)
      refine WC.seq (fun K10 hK10 => ?_)
      refine WC.seq (fun K11 hK11 => ?_)
      refine WC.region ?_
      refine WL.op rfl (opW.moveI rfl ?_)
      refine WL.op rfl (opW.gtr rfl rfl ?_)
      refine WL.op rfl (opW.moveB rfl ?_)
      refine WL.gd _ 22 _ rfl rfl rfl rfl (fun hg23 => opW.moveI rfl ⟨rfl, Bel.refl _⟩) (fun w hw => ?_)
      replace hS := hS.bel hw
      refine WL.gd _ 22 _ rfl rfl rfl rfl (fun hg24 => opW.eql (by first | exact gv_of rfl hg24 | rfl) rfl ⟨rfl, Bel.refl _⟩) (fun w hw => ?_)
      replace hS := hS.bel hw
      refine WL.op rfl (opW.pickAnd rfl (by first | rfl) rfl ?_)
      refine WL.op rfl (opW.moveB rfl ?_)
      refine WL.gd _ 26 _ rfl rfl rfl rfl (fun hg27 => opW.moveI rfl ⟨rfl, Bel.refl _⟩) (fun w hw => ?_)
      replace hS := hS.bel hw
      refine WL.gd _ 26 _ rfl rfl rfl rfl (fun hg28 => opW.eql (by first | exact gv_of rfl hg28 | rfl) rfl ⟨rfl, Bel.refl _⟩) (fun w hw => ?_)
      replace hS := hS.bel hw
      refine WL.gd _ 26 _ rfl rfl rfl rfl (fun hg29 => opW.moveB (by first | exact gv_of rfl hg29 | rfl) ⟨rfl, Bel.refl _⟩) (fun w hw => ?_)
      replace hS := hS.bel hw
      refine WL.gd2 _ _ 29 _ rfl rfl rfl rfl (fun hg30 => opW.moveI rfl ⟨rfl, Bel.refl _⟩) (fun w hw => ?_)
      replace hS := hS.bel hw
      refine WL.gd2 _ _ 29 _ rfl rfl rfl rfl (fun hg31 => opW.gtr (by first | exact gv_of rfl hg31 | rfl) rfl ⟨rfl, Bel.refl _⟩) (fun w hw => ?_)
      replace hS := hS.bel hw
      refine WL.gd _ 26 _ rfl rfl rfl rfl (fun hg32 => opW.pickAnd (by first | exact gv_of rfl hg32 | rfl) (by first | exact gv_and rfl hg32 | rfl) rfl ⟨rfl, Bel.refl _⟩) (fun w hw => ?_)
      replace hS := hS.bel hw
      refine WL.op rfl (opW.pickOr rfl rfl (by first | rfl) ?_)
      refine WL.nil ?_
      refine thenQ_n (hK11 _ _ ?_)
      refine WC.cond _ rfl (fun hc1 => ?_) (fun hc1 => ?_)
      ·
        have hr1 := hc1
        try simp only [decide_eq_true_eq, decide_eq_false_iff_not, Bool.and_eq_true, Bool.or_eq_true, Bool.and_eq_false_iff, Bool.or_eq_false_iff, Bool.not_eq_true', Bool.not_eq_false', Int.not_lt, Int.not_le] at hc1
        refine WC.seq (fun K12 hK12 => ?_)
        refine WC.region ?_
        refine WL.op rfl (opW.assignI rfl ?_)
        refine WL.op rfl (opW.assignI rfl ?_)
        refine WL.op rfl (opW.assignI rfl ?_)
        refine WL.nil ?_
        refine thenQ_n (hK12 _ _ ?_)
        refine WC.ret ?_
        refine thenQ_r ?_
        refine blockQ_r ?_
        refine thenQ_r ?_
        refine thenQ_r ?_
        refine blockQ_r ?_
        refine bodyQ_ret (.tmpI rfl (.tmpI rfl (.tmpI rfl .nil))) ?_
        refine ⟨?_, hS.old⟩
        rw [← hg, gs_step hk, gs, if_pos (by simpa using hr1)]
        rfl
      ·
        have hr1 := hc1
        try simp only [decide_eq_true_eq, decide_eq_false_iff_not, Bool.and_eq_true, Bool.or_eq_true, Bool.and_eq_false_iff, Bool.or_eq_false_iff, Bool.not_eq_true', Bool.not_eq_false', Int.not_lt, Int.not_le] at hc1
        refine WC.skip ?_
        refine thenQ_n (hK10 _ _ ?_)
        refine WC.seq (fun K13 hK13 => ?_)
        refine WC.region ?_
        refine WL.op rfl (opW.moveI rfl ?_)
        refine WL.op rfl (opW.moveI rfl ?_)
        refine WL.op rfl (opW.rem rfl rfl (by omega) (tmod_nat _ 128) ?_)
        refine WL.op rfl (opW.moveI rfl ?_)
        refine WL.op rfl (opW.mul rfl rfl ((congrArg _ hp4).trans (wrap_i64 (by omega))) ?_)
        refine WL.op rfl (opW.add rfl rfl ((wrap_i64 (by omega)).trans (by omega : _ = ((n + b[k].toNat % 128 * PP : Nat) : Int))) ?_)
        refine WL.op rfl (opW.assignI rfl ?_)
        refine WL.nil ?_
        refine thenQ_n (hK13 _ _ ?_)
        refine WC.seq (fun K14 hK14 => ?_)
        refine WC.region ?_
        refine WL.op rfl (opW.moveI rfl ?_)
        refine WL.op rfl (opW.mul rfl rfl (wrap_i64 (by omega)) ?_)
        refine WL.op rfl (opW.assignI rfl ?_)
        refine WL.nil ?_
        refine thenQ_n (hK14 _ _ ?_)
        refine WC.seq (fun K15 hK15 => ?_)
        refine WC.region ?_
        refine WL.op rfl (opW.moveI rfl ?_)
        refine WL.op rfl (opW.lss rfl rfl ?_)
        refine WL.nil ?_
        refine thenQ_n (hK15 _ _ ?_)
        refine WC.cond _ rfl (fun hc2 => ?_) (fun hc2 => ?_)
        ·
          have hr2 := hc2
          try simp only [decide_eq_true_eq, decide_eq_false_iff_not, Bool.and_eq_true, Bool.or_eq_true, Bool.and_eq_false_iff, Bool.or_eq_false_iff, Bool.not_eq_true', Bool.not_eq_false', Int.not_lt, Int.not_le] at hc2
          refine WC.seq (fun K16 hK16 => ?_)
          refine WC.region ?_
          refine WL.op rfl (opW.moveI rfl ?_)
          refine WL.op rfl (opW.moveI rfl ?_)
          refine WL.op rfl (opW.add rfl rfl (wrap_i64 (by omega)) ?_)
          refine WL.op rfl (opW.assignI rfl ?_)
          refine WL.op rfl (opW.assignI rfl ?_)
          refine WL.op rfl (opW.assignI rfl ?_)
          refine WL.nil ?_
          refine thenQ_n (hK16 _ _ ?_)
          refine WC.ret ?_
          refine blockQ_r ?_
          refine thenQ_r ?_
          refine thenQ_r ?_
          refine blockQ_r ?_
          refine bodyQ_ret (.tmpI rfl (.tmpI rfl (.tmpI rfl .nil))) ?_
          refine ⟨?_, hS.old⟩
          rw [← hg, gs_step hk, gs, if_neg (by simpa using hr1), if_pos (by omega)]
          subst hP
          rfl
        ·
          have hr2 := hc2
          try simp only [decide_eq_true_eq, decide_eq_false_iff_not, Bool.and_eq_true, Bool.or_eq_true, Bool.and_eq_false_iff, Bool.or_eq_false_iff, Bool.not_eq_true', Bool.not_eq_false', Int.not_lt, Int.not_le] at hc2
          refine WC.skip ?_
          refine blockQ_n ?_
          refine thenQ_n (hK5 _ _ ?_)
          refine WC.region ?_
          refine WL.op rfl (opW.moveI rfl ?_)
          refine WL.op rfl (opW.add rfl rfl (wrap_i64 (by omega)) ?_)
          refine WL.op rfl (opW.assignI rfl ?_)
          refine WL.nil ?_
          refine thenQ_n ?_
          subst hP
          refine ⟨b.length - (k + 1), by omega, k + 1, n + b[k].toNat % 128 * 2 ^ (7 * k), ⟨rfl, rfl, congrArg (Value.int .i64) (by rw [hp1]; omega), congrArg (Value.int .i64) (by omega), trivial⟩, hS, ?_, gs_lt hn, ?_, rfl⟩
          · rw [← hg, gs_step hk, gs, if_neg (by simpa using hr1), if_neg (by omega)]
          · omega

theorem short_rec {n : Nat} (h1 : 128 ≤ n) (h2 : n ≤ 65535) : shortB n = lo n :: shortB (n / 128) := by
  unfold shortB
  rw [if_neg (by omega)]
  by_cases h : n < 16384
  · rw [if_pos h, if_pos (by omega)]
  · rw [if_neg h, if_neg (by omega), if_pos (by omega)]
theorem lo_nat (n : Nat) : ((lo n).toNat : Int) = ((n % 128 : Nat) : Int) + 128 := by
  have : (lo n).toNat = n % 128 + 128 := by simp [lo]; omega
  omega
theorem by8n {n : Nat} (h : n < 128) : (n : Int) = ((UInt8.ofNat n).toNat : Int) := by simp; omega

theorem rshort_step (w0 : World) (n : Nat) (hn : n ≤ 65535) (ih : 128 ≤ n → ∀ w, Ret Try.prog 34 #[.int .i64 ((n / 128 : Nat) : Int)] w (fun u w' => New w w' u 5 (shortB (n / 128)) ∧ Bel w w')) : Ret Try.prog 34 #[.int .i64 (n : Int)] w0 (fun u w' => New w0 w' u 5 (shortB n) ∧ Bel w0 w') := by
  refine Ret.enter (args := [.int .i64 (n : Int)]) Try.func34 rfl Try.ntmps34 Try.results34 rfl ?_
  have hS := St.start w0
  refine WC.seq (fun K1 hK1 => ?_)
  refine WC.region ?_
  refine WL.op rfl (opW.assignV (v := .slice none 0 0) rfl ?_)
  refine WL.nil ?_
  refine thenQ_n (hK1 _ _ ?_)
  refine WC.seq (fun K2 hK2 => ?_)
  refine WC.seq (fun K3 hK3 => ?_)
  refine WC.region ?_
  refine WL.op rfl (opW.moveI rfl ?_)
  refine WL.op rfl (opW.lss rfl rfl ?_)
  refine WL.nil ?_
  refine thenQ_n (hK3 _ _ ?_)
  refine WC.cond _ rfl (fun hc0 => ?_) (fun hc0 => ?_)
  ·
    have hr0 := hc0
    try simp only [decide_eq_true_eq, decide_eq_false_iff_not, Bool.and_eq_true, Bool.or_eq_true, Bool.and_eq_false_iff, Bool.or_eq_false_iff, Bool.not_eq_true', Bool.not_eq_false', Int.not_lt, Int.not_le] at hc0
    refine WC.seq (fun K4 hK4 => ?_)
    refine WC.region ?_
    refine WL.op rfl (opW.moveI rfl ?_)
    refine WL.op rfl (opW.conv rfl ((wrap_u8 (by omega)).trans (by8n (by omega))) ?_)
    refine WL.op rfl (opW.buildSl hS (([UInt8.ofNat n] : List UInt8)) [.int .u8 ((UInt8.ofNat n).toNat : Int)] rfl rfl rfl rfl (by decide) ?_)
    intro b7 w hw hS
    refine WL.op rfl (opW.assignV rfl ?_)
    refine WL.nil ?_
    refine thenQ_n (hK4 _ _ ?_)
    refine WC.ret ?_
    refine thenQ_r ?_
    refine bodyQ_ret (.tmp .nil) ?_
    rw [show shortB n = [UInt8.ofNat n] from by unfold shortB; rw [if_pos (by omega)]]
    exact ⟨hS.own_new (by first | exact .h0 | exact .h1 | exact .h2 | exact .h3 | exact .h4 | exact .h5 | exact .h6 | exact .h7 | exact .h8 | exact .h9 | exact .h10 | exact .h11 | exact .h12 | exact .h13 | exact .h14), hS.old⟩
  ·
    have hr0 := hc0
    try simp only [decide_eq_true_eq, decide_eq_false_iff_not, Bool.and_eq_true, Bool.or_eq_true, Bool.and_eq_false_iff, Bool.or_eq_false_iff, Bool.not_eq_true', Bool.not_eq_false', Int.not_lt, Int.not_le] at hc0
    refine WC.skip ?_
    refine thenQ_n (hK2 _ _ ?_)
    refine WC.seq (fun K5 hK5 => ?_)
    refine WC.region ?_
    refine WL.op rfl (opW.moveI rfl ?_)
    refine WL.op rfl (opW.rem rfl rfl (by omega) (show Int.tmod _ _ = ((n % 128 : Nat) : Int) from tmod_nat n 128) ?_)
    refine WL.op rfl (opW.conv rfl (wrap_u8 (by omega)) ?_)
    refine WL.op rfl (opW.add rfl rfl ((show IntKind.u8.wrap _ = ((lo n).toNat : Int) from by rw [lo_nat, wrap_u8 (by omega)])) ?_)
    refine WL.op rfl (opW.buildSl hS (([lo n] : List UInt8)) [.int .u8 ((lo n).toNat : Int)] rfl rfl rfl rfl (by decide) ?_)
    intro b12 w hw hS
    refine WL.op rfl (opW.moveI rfl ?_)
    refine WL.op rfl (opW.quo rfl rfl (by omega) (show IntKind.i64.wrap _ = ((n / 128 : Nat) : Int) from by rw [show ((n : Int)).tdiv 128 = ((n / 128 : Nat) : Int) from by rw [Int.tdiv_eq_ediv_of_nonneg (by omega)]; omega]; exact wrap_i64 (by omega)) ?_)
    refine WL.op rfl (opW.call (ih (by omega) _) rfl ?_)
    rintro v15 w ⟨hn15, hw⟩
    replace hS := hS.newOwn hw hn15.1 hn15.2
    refine WL.op rfl (opW.appendOwn (α := UInt8) (v := .slice (some ⟨b12, 0, none⟩) 1 1) (xs := [lo n]) rfl hS rfl (by first | exact .h0 | exact .h1 | exact .h2 | exact .h3 | exact .h4 | exact .h5 | exact .h6 | exact .h7 | exact .h8 | exact .h9 | exact .h10 | exact .h11 | exact .h12 | exact .h13 | exact .h14) (hS.sl (v := v15) (xs := shortB (n / 128)) (by first | exact .h0 | exact .h1 | exact .h2 | exact .h3 | exact .h4 | exact .h5 | exact .h6 | exact .h7 | exact .h8 | exact .h9 | exact .h10 | exact .h11 | exact .h12 | exact .h13 | exact .h14)) (by have := len_shortB (n / 128); simp only [List.length_cons, List.length_nil]; split at this <;> (try split at this) <;> omega) (by have := len_shortB (n / 128); simp only [maxLen, List.length_cons, List.length_nil]; split at this <;> (try split at this) <;> omega) ?_)
    intro v16 w hS; replace hS := hS _ (by first | exact .h0 | exact .h1 | exact .h2 | exact .h3 | exact .h4 | exact .h5 | exact .h6 | exact .h7 | exact .h8 | exact .h9 | exact .h10 | exact .h11 | exact .h12 | exact .h13 | exact .h14)
    refine WL.op rfl (opW.assignV (v := v16) rfl ?_)
    refine WL.nil ?_
    refine thenQ_n (hK5 _ _ ?_)
    refine WC.ret ?_
    refine bodyQ_ret (.tmpV (v := v16) rfl .nil) ?_
    rw [short_rec (by omega) hn]
    exact ⟨hS.own_new (xs := lo n :: shortB (n / 128)) (by first | exact .h0 | exact .h1 | exact .h2 | exact .h3 | exact .h4 | exact .h5 | exact .h6 | exact .h7 | exact .h8 | exact .h9 | exact .h10 | exact .h11 | exact .h12 | exact .h13 | exact .h14), hS.old⟩

theorem rshort_ok (w0 : World) (n : Nat) (hn : n ≤ 65535) : Ret Try.prog 34 #[.int .i64 (n : Int)] w0 (fun u w' => New w0 w' u 5 (shortB n) ∧ Bel w0 w') :=
  rshort_step w0 n hn fun h1 w => rshort_step w (n / 128) (by omega) fun h2 w => rshort_step w (n / 128 / 128) (by omega) fun h3 => by omega

/-- as the document asks it -/
def okN (n : Nat) : Bool := decide ((n : Int) ≤ 65535)
def okA {α : Type} (b : Bool) (l : List (α × List UInt8 × List UInt8)) : Bool := l.foldl (fun b x => (b && okN x.2.1.length) && okN x.2.2.length) b
theorem okA_step {α : Type} (b : Bool) {l : List (α × List UInt8 × List UInt8)} {k : Nat} (hk : k < l.length) : okA b (l.take (k + 1)) = ((okA b (l.take k) && okN l[k].2.1.length) && okN l[k].2.2.length) := by
  unfold okA; rw [List.take_succ_eq_append_getElem hk, List.foldl_append]; rfl
theorem okA_longs {α : Type} : ∀ (l : List (α × List UInt8 × List UInt8)) (a : Nat), okA (okN a) l = okN (longs a l)
  | [], a => rfl
  | x :: l, a => by
    show okA ((okN a && okN x.2.1.length) && okN x.2.2.length) l = okN (longs (max (max a x.2.1.length) x.2.2.length) l)
    rw [← okA_longs l (max (max a x.2.1.length) x.2.2.length)]
    congr 1
    unfold okN
    rw [Bool.eq_iff_iff]
    simp only [Bool.and_eq_true, decide_eq_true_eq]
    omega
theorem okN3 (a b c : Nat) : ((okN a && okN b) && okN c) = okN (max (max a b) c) := by
  unfold okN
  rw [Bool.eq_iff_iff]
  simp only [Bool.and_eq_true, decide_eq_true_eq]
  omega
theorem may_eq (c : MC) : (okA (okA ((okN c.keys.length && okN c.ins.length) && okN c.lks.length) c.ins) c.lks && (c.v0 || (decide ((c.lks.length : Int) = 0) && decide ((c.h.signers.toNat : Int) < 128)))) = mayF c := by
  rw [okN3, okA_longs, okA_longs]
  unfold mayF longM okN
  have h1 : ∀ n : Nat, decide ((n : Int) ≤ 65535) = decide (n ≤ 65535) := fun n => decide_eq_decide.2 (by omega)
  have h2 : ∀ n : Nat, decide ((n : Int) < 128) = decide (n < 128) := fun n => decide_eq_decide.2 (by omega)
  have h3 : ∀ n : Nat, decide ((n : Int) = 0) = decide (n = 0) := fun n => decide_eq_decide.2 (by omega)
  rw [h1, h2, h3]

theorem rmay_ok (w0 : World) (m : Message) (c : MC) (ins : List Instr) (lks : List Lookup) (hc : IsM w0 m c ins lks) : Ret Try.prog 57 #[.agg (Enc.enc m)] w0 (fun u w' => u = .bool (mayF c) ∧ Bel w0 w') := by
  refine Ret.enter (args := [.agg (Enc.enc m)]) Try.func57 rfl Try.ntmps57 Try.results57 rfl ?_
  have hS := St.start w0
  have hil := hc.ii.1
  have hll := hc.ll.1
  have hib := hc.i.le
  have hlb := hc.l.le
  simp only [maxLen] at hib hlb
  refine WC.seq (fun K1 hK1 => ?_)
  refine WC.region ?_
  refine WL.op rfl (opW.boxA hS rfl ?_)
  intro b1 w _ hS
  refine WL.op rfl (opW.assignB rfl ?_)
  refine WL.nil ?_
  refine thenQ_n (hK1 _ _ ?_)
  refine WC.seq (fun K2 hK2 => ?_)
  refine WC.region ?_
  refine WL.op rfl (opW.fieldAddrB rfl ?_)
  refine WL.op rfl (opW.loadV rfl (hS.ld1 (by first | exact .h0 | exact .h1 | exact .h2 | exact .h3 | exact .h4 | exact .h5 | exact .h6 | exact .h7 | exact .h8 | exact .h9 | exact .h10 | exact .h11 | exact .h12 | exact .h13 | exact .h14) (Message.at_keys m)) ?_)
  refine WL.op rfl (opW.lenV rfl ((hc.k.bel hS.old)) ?_)
  refine WL.op rfl (opW.leq rfl rfl ?_)
  refine WL.op rfl (opW.moveB rfl ?_)
  refine WL.gd _ 10 _ rfl rfl rfl rfl (fun hg11 => opW.fieldAddrB rfl ⟨rfl, Bel.refl _⟩) (fun w hw => ?_)
  replace hS := hS.bel hw
  refine WL.gd _ 10 m.instrs.v rfl rfl rfl rfl (fun hg12 => ?_) (fun w hw => ?_)
  · refine opW.loadV (by first | exact gv_of rfl hg12 | rfl) (hS.ld1 (by first | exact .h0 | exact .h1 | exact .h2 | exact .h3 | exact .h4 | exact .h5 | exact .h6 | exact .h7 | exact .h8 | exact .h9 | exact .h10 | exact .h11 | exact .h12 | exact .h13 | exact .h14) (Message.at_instrs m)) ⟨rfl, Bel.refl _⟩
  replace hS := hS.bel hw
  refine WL.gd _ 10 _ rfl rfl rfl rfl (fun hg13 => opW.lenV (by first | exact gv_of rfl hg13 | rfl) ((hc.i.bel hS.old)) ⟨rfl, Bel.refl _⟩) (fun w hw => ?_)
  replace hS := hS.bel hw
  refine WL.gd _ 10 _ rfl rfl rfl rfl (fun hg14 => opW.leq (by first | exact gv_of rfl hg14 | rfl) rfl ⟨rfl, Bel.refl _⟩) (fun w hw => ?_)
  replace hS := hS.bel hw
  refine WL.op rfl (opW.pickAnd rfl (by first | rfl) rfl ?_)
  refine WL.op rfl (opW.moveB rfl ?_)
  refine WL.gd _ 16 _ rfl rfl rfl rfl (fun hg17 => opW.fieldAddrB rfl ⟨rfl, Bel.refl _⟩) (fun w hw => ?_)
  replace hS := hS.bel hw
  refine WL.gd _ 16 m.lookups.v rfl rfl rfl rfl (fun hg18 => ?_) (fun w hw => ?_)
  · refine opW.loadV (by first | exact gv_of rfl hg18 | rfl) (hS.ld1 (by first | exact .h0 | exact .h1 | exact .h2 | exact .h3 | exact .h4 | exact .h5 | exact .h6 | exact .h7 | exact .h8 | exact .h9 | exact .h10 | exact .h11 | exact .h12 | exact .h13 | exact .h14) (Message.at_lookups m)) ⟨rfl, Bel.refl _⟩
  replace hS := hS.bel hw
  refine WL.gd _ 16 _ rfl rfl rfl rfl (fun hg19 => opW.lenV (by first | exact gv_of rfl hg19 | rfl) ((hc.l.bel hS.old)) ⟨rfl, Bel.refl _⟩) (fun w hw => ?_)
  replace hS := hS.bel hw
  refine WL.gd _ 16 _ rfl rfl rfl rfl (fun hg20 => opW.leq (by first | exact gv_of rfl hg20 | rfl) rfl ⟨rfl, Bel.refl _⟩) (fun w hw => ?_)
  replace hS := hS.bel hw
  refine WL.op rfl (opW.pickAnd rfl (by first | rfl) rfl ?_)
  refine WL.op rfl (opW.assignB rfl ?_)
  refine WL.nil ?_
  refine thenQ_n (hK2 _ _ ?_)
  refine WC.seq (fun K3 hK3 => ?_)
  refine WC.seq (fun K4 hK4 => ?_)
  refine WC.region ?_
  refine WL.op rfl (opW.assignI rfl ?_)
  refine WL.nil ?_
  refine thenQ_n (hK4 _ _ ?_)
  refine WC.block ?_
  refine WC.loop (fun q f w => ∃ k : Nat, Fits [(1, .pointer (some ⟨b1, 0, none⟩)), (3, .bool (okA ((okN c.keys.length && okN c.ins.length) && okN c.lks.length) (c.ins.take k))), (4, .int .i64 (k : Int))] f ∧ St w0 [blkE b1 (Enc.enc m) 31] w ∧ k ≤ ins.length ∧ q = ins.length - k) (ins.length) ?_ ?_
  ·
    exact ⟨0, ⟨rfl, (by rw [← hil, ← hll]; rfl), rfl, trivial⟩, hS, Nat.zero_le _, rfl⟩
  ·
    rintro q f w ⟨k, hfit, hS, hk0, hm⟩
    refine WC.fits _ hfit (fun g => ?_)
    clear hfit
    refine WC.seq (fun K5 hK5 => ?_)
    refine WC.seq (fun K6 hK6 => ?_)
    refine WC.region ?_
    refine WL.op rfl (opW.moveI rfl ?_)
    refine WL.op rfl (opW.fieldAddrB rfl ?_)
    refine WL.op rfl (opW.loadV rfl (hS.ld1 (by first | exact .h0 | exact .h1 | exact .h2 | exact .h3 | exact .h4 | exact .h5 | exact .h6 | exact .h7 | exact .h8 | exact .h9 | exact .h10 | exact .h11 | exact .h12 | exact .h13 | exact .h14) (Message.at_instrs m)) ?_)
    refine WL.op rfl (opW.lenV rfl ((hc.i.bel hS.old)) ?_)
    refine WL.op rfl (opW.lss rfl rfl ?_)
    refine WL.nil ?_
    refine thenQ_n (hK6 _ _ ?_)
    refine WC.cond _ rfl (fun hc0 => ?_) (fun hc0 => ?_)
    ·
      have hr0 := hc0
      try simp only [decide_eq_true_eq, decide_eq_false_iff_not, Bool.and_eq_true, Bool.or_eq_true, Bool.and_eq_false_iff, Bool.or_eq_false_iff, Bool.not_eq_true', Bool.not_eq_false', Int.not_lt, Int.not_le] at hc0
      have hkl : k < ins.length := by omega
      have hkc : k < c.ins.length := by omega
      obtain ⟨_, hla, hld⟩ := hc.ii.2 k hkl hkc
      refine WC.skip ?_
      refine thenQ_n (hK5 _ _ ?_)
      refine WC.seq (fun K7 hK7 => ?_)
      refine WC.block ?_
      refine WC.region ?_
      refine WL.op rfl (opW.moveB rfl ?_)
      refine WL.op rfl (opW.moveB rfl ?_)
      refine WL.gd _ 30 _ rfl rfl rfl rfl (fun hg31 => opW.fieldAddrB rfl ⟨rfl, Bel.refl _⟩) (fun w hw => ?_)
      replace hS := hS.bel hw
      refine WL.gd _ 30 m.instrs.v rfl rfl rfl rfl (fun hg32 => ?_) (fun w hw => ?_)
      · refine opW.loadV (by first | exact gv_of rfl hg32 | rfl) (hS.ld1 (by first | exact .h0 | exact .h1 | exact .h2 | exact .h3 | exact .h4 | exact .h5 | exact .h6 | exact .h7 | exact .h8 | exact .h9 | exact .h10 | exact .h11 | exact .h12 | exact .h13 | exact .h14) (Message.at_instrs m)) ⟨rfl, Bel.refl _⟩
      replace hS := hS.bel hw
      refine WL.gd _ 30 _ rfl rfl rfl rfl (fun hg33 => opW.moveI rfl ⟨rfl, Bel.refl _⟩) (fun w hw => ?_)
      replace hS := hS.bel hw
      refine WL.gd _ 30 _ rfl rfl rfl rfl (fun hg34 => opW.idxV (by first | exact gv_of rfl hg34 | rfl) ((hc.i.bel hS.old)) (by first | exact gv_of rfl hg34 | rfl) (by omega) ⟨rfl, Bel.refl _⟩) (fun w hw => ?_)
      replace hS := hS.bel hw
      refine WL.gd _ 30 _ rfl rfl rfl rfl (fun hg35 => opW.fieldAddr (by first | exact gv_of rfl hg35 | rfl) ((hc.i.bel hS.old).isP hkl) ⟨rfl, Bel.refl _⟩) (fun w hw => ?_)
      replace hS := hS.bel hw
      refine WL.gd _ 30 ins[k].accounts.v rfl rfl rfl rfl (fun hg36 => ?_) (fun w hw => ?_)
      · refine opW.loadV (by first | exact gv_of rfl hg36 | rfl) (Ld.pt1 ((hc.i.bel hS.old).isPt hkl) 1 (Instr.at_accounts _)) ⟨rfl, Bel.refl _⟩
      replace hS := hS.bel hw
      refine WL.gd _ 30 _ rfl rfl rfl rfl (fun hg37 => opW.lenV (by first | exact gv_of rfl hg37 | rfl) ((hla.bel hS.old)) ⟨rfl, Bel.refl _⟩) (fun w hw => ?_)
      replace hS := hS.bel hw
      refine WL.gd _ 30 _ rfl rfl rfl rfl (fun hg38 => opW.leq (by first | exact gv_of rfl hg38 | rfl) rfl ⟨rfl, Bel.refl _⟩) (fun w hw => ?_)
      replace hS := hS.bel hw
      refine WL.op rfl (opW.pickAnd rfl (by first | rfl) rfl ?_)
      refine WL.op rfl (opW.moveB rfl ?_)
      refine WL.gd _ 40 _ rfl rfl rfl rfl (fun hg41 => opW.fieldAddrB rfl ⟨rfl, Bel.refl _⟩) (fun w hw => ?_)
      replace hS := hS.bel hw
      refine WL.gd _ 40 m.instrs.v rfl rfl rfl rfl (fun hg42 => ?_) (fun w hw => ?_)
      · refine opW.loadV (by first | exact gv_of rfl hg42 | rfl) (hS.ld1 (by first | exact .h0 | exact .h1 | exact .h2 | exact .h3 | exact .h4 | exact .h5 | exact .h6 | exact .h7 | exact .h8 | exact .h9 | exact .h10 | exact .h11 | exact .h12 | exact .h13 | exact .h14) (Message.at_instrs m)) ⟨rfl, Bel.refl _⟩
      replace hS := hS.bel hw
      refine WL.gd _ 40 _ rfl rfl rfl rfl (fun hg43 => opW.moveI rfl ⟨rfl, Bel.refl _⟩) (fun w hw => ?_)
      replace hS := hS.bel hw
      refine WL.gd _ 40 _ rfl rfl rfl rfl (fun hg44 => opW.idxV (by first | exact gv_of rfl hg44 | rfl) ((hc.i.bel hS.old)) (by first | exact gv_of rfl hg44 | rfl) (by omega) ⟨rfl, Bel.refl _⟩) (fun w hw => ?_)
      replace hS := hS.bel hw
      refine WL.gd _ 40 _ rfl rfl rfl rfl (fun hg45 => opW.fieldAddr (by first | exact gv_of rfl hg45 | rfl) ((hc.i.bel hS.old).isP hkl) ⟨rfl, Bel.refl _⟩) (fun w hw => ?_)
      replace hS := hS.bel hw
      refine WL.gd _ 40 ins[k].data.v rfl rfl rfl rfl (fun hg46 => ?_) (fun w hw => ?_)
      · refine opW.loadV (by first | exact gv_of rfl hg46 | rfl) (Ld.pt1 ((hc.i.bel hS.old).isPt hkl) 2 (Instr.at_data _)) ⟨rfl, Bel.refl _⟩
      replace hS := hS.bel hw
      refine WL.gd _ 40 _ rfl rfl rfl rfl (fun hg47 => opW.lenV (by first | exact gv_of rfl hg47 | rfl) ((hld.bel hS.old)) ⟨rfl, Bel.refl _⟩) (fun w hw => ?_)
      replace hS := hS.bel hw
      refine WL.gd _ 40 _ rfl rfl rfl rfl (fun hg48 => opW.leq (by first | exact gv_of rfl hg48 | rfl) rfl ⟨rfl, Bel.refl _⟩) (fun w hw => ?_)
      replace hS := hS.bel hw
      refine WL.op rfl (opW.pickAnd rfl (by first | rfl) rfl ?_)
      refine WL.op rfl (opW.assignB rfl ?_)
      refine WL.nil ?_
      refine blockQ_n ?_
      refine thenQ_n (hK7 _ _ ?_)
      refine WC.region ?_
      refine WL.op rfl (opW.moveI rfl ?_)
      refine WL.op rfl (opW.add rfl rfl (wrap_i64 (by omega)) ?_)
      refine WL.op rfl (opW.assignI rfl ?_)
      refine WL.nil ?_
      refine thenQ_n ?_
      exact ⟨ins.length - (k + 1), by omega, k + 1, ⟨rfl, (by rw [okA_step _ hkc]; rfl), congrArg (Value.int .i64) (by omega), trivial⟩, hS, by omega, rfl⟩
    ·
      have hr0 := hc0
      try simp only [decide_eq_true_eq, decide_eq_false_iff_not, Bool.and_eq_true, Bool.or_eq_true, Bool.and_eq_false_iff, Bool.or_eq_false_iff, Bool.not_eq_true', Bool.not_eq_false', Int.not_lt, Int.not_le] at hc0
      obtain rfl : k = ins.length := by omega
      rw [List.take_of_length_le (by omega)]
      refine WC.exit ?_
      refine thenQ_e ?_
      refine thenQ_e ?_
      refine blockQ_hit ?_
      refine thenQ_n (hK3 _ _ ?_)
      refine WC.seq (fun K8 hK8 => ?_)
      refine WC.seq (fun K9 hK9 => ?_)
      refine WC.region ?_
      refine WL.op rfl (opW.assignI rfl ?_)
      refine WL.nil ?_
      refine thenQ_n (hK9 _ _ ?_)
      refine WC.block ?_
      refine WC.loop (fun q f w => ∃ k : Nat, Fits [(1, .pointer (some ⟨b1, 0, none⟩)), (3, .bool (okA (okA ((okN c.keys.length && okN c.ins.length) && okN c.lks.length) c.ins) (c.lks.take k))), (5, .int .i64 (k : Int))] f ∧ St w0 [blkE b1 (Enc.enc m) 31] w ∧ k ≤ lks.length ∧ q = lks.length - k) (lks.length) ?_ ?_
      ·
        exact ⟨0, ⟨rfl, rfl, rfl, trivial⟩, hS, Nat.zero_le _, rfl⟩
      ·
        rintro q f w ⟨k, hfit, hS, hk0, hm⟩
        refine WC.fits _ hfit (fun g => ?_)
        clear hfit
        refine WC.seq (fun K10 hK10 => ?_)
        refine WC.seq (fun K11 hK11 => ?_)
        refine WC.region ?_
        refine WL.op rfl (opW.moveI rfl ?_)
        refine WL.op rfl (opW.fieldAddrB rfl ?_)
        refine WL.op rfl (opW.loadV rfl (hS.ld1 (by first | exact .h0 | exact .h1 | exact .h2 | exact .h3 | exact .h4 | exact .h5 | exact .h6 | exact .h7 | exact .h8 | exact .h9 | exact .h10 | exact .h11 | exact .h12 | exact .h13 | exact .h14) (Message.at_lookups m)) ?_)
        refine WL.op rfl (opW.lenV rfl ((hc.l.bel hS.old)) ?_)
        refine WL.op rfl (opW.lss rfl rfl ?_)
        refine WL.nil ?_
        refine thenQ_n (hK11 _ _ ?_)
        refine WC.cond _ rfl (fun hc1 => ?_) (fun hc1 => ?_)
        ·
          have hr1 := hc1
          try simp only [decide_eq_true_eq, decide_eq_false_iff_not, Bool.and_eq_true, Bool.or_eq_true, Bool.and_eq_false_iff, Bool.or_eq_false_iff, Bool.not_eq_true', Bool.not_eq_false', Int.not_lt, Int.not_le] at hc1
          have hkl : k < lks.length := by omega
          have hkc : k < c.lks.length := by omega
          obtain ⟨_, hla, hld⟩ := hc.ll.2 k hkl hkc
          refine WC.skip ?_
          refine thenQ_n (hK10 _ _ ?_)
          refine WC.seq (fun K12 hK12 => ?_)
          refine WC.block ?_
          refine WC.region ?_
          refine WL.op rfl (opW.moveB rfl ?_)
          refine WL.op rfl (opW.moveB rfl ?_)
          refine WL.gd _ 58 _ rfl rfl rfl rfl (fun hg59 => opW.fieldAddrB rfl ⟨rfl, Bel.refl _⟩) (fun w hw => ?_)
          replace hS := hS.bel hw
          refine WL.gd _ 58 m.lookups.v rfl rfl rfl rfl (fun hg60 => ?_) (fun w hw => ?_)
          · refine opW.loadV (by first | exact gv_of rfl hg60 | rfl) (hS.ld1 (by first | exact .h0 | exact .h1 | exact .h2 | exact .h3 | exact .h4 | exact .h5 | exact .h6 | exact .h7 | exact .h8 | exact .h9 | exact .h10 | exact .h11 | exact .h12 | exact .h13 | exact .h14) (Message.at_lookups m)) ⟨rfl, Bel.refl _⟩
          replace hS := hS.bel hw
          refine WL.gd _ 58 _ rfl rfl rfl rfl (fun hg61 => opW.moveI rfl ⟨rfl, Bel.refl _⟩) (fun w hw => ?_)
          replace hS := hS.bel hw
          refine WL.gd _ 58 _ rfl rfl rfl rfl (fun hg62 => opW.idxV (by first | exact gv_of rfl hg62 | rfl) ((hc.l.bel hS.old)) (by first | exact gv_of rfl hg62 | rfl) (by omega) ⟨rfl, Bel.refl _⟩) (fun w hw => ?_)
          replace hS := hS.bel hw
          refine WL.gd _ 58 _ rfl rfl rfl rfl (fun hg63 => opW.fieldAddr (by first | exact gv_of rfl hg63 | rfl) ((hc.l.bel hS.old).isP hkl) ⟨rfl, Bel.refl _⟩) (fun w hw => ?_)
          replace hS := hS.bel hw
          refine WL.gd _ 58 lks[k].writes.v rfl rfl rfl rfl (fun hg64 => ?_) (fun w hw => ?_)
          · refine opW.loadV (by first | exact gv_of rfl hg64 | rfl) (Ld.pt1 ((hc.l.bel hS.old).isPt hkl) 32 (Lookup.at_writes _)) ⟨rfl, Bel.refl _⟩
          replace hS := hS.bel hw
          refine WL.gd _ 58 _ rfl rfl rfl rfl (fun hg65 => opW.lenV (by first | exact gv_of rfl hg65 | rfl) ((hla.bel hS.old)) ⟨rfl, Bel.refl _⟩) (fun w hw => ?_)
          replace hS := hS.bel hw
          refine WL.gd _ 58 _ rfl rfl rfl rfl (fun hg66 => opW.leq (by first | exact gv_of rfl hg66 | rfl) rfl ⟨rfl, Bel.refl _⟩) (fun w hw => ?_)
          replace hS := hS.bel hw
          refine WL.op rfl (opW.pickAnd rfl (by first | rfl) rfl ?_)
          refine WL.op rfl (opW.moveB rfl ?_)
          refine WL.gd _ 68 _ rfl rfl rfl rfl (fun hg69 => opW.fieldAddrB rfl ⟨rfl, Bel.refl _⟩) (fun w hw => ?_)
          replace hS := hS.bel hw
          refine WL.gd _ 68 m.lookups.v rfl rfl rfl rfl (fun hg70 => ?_) (fun w hw => ?_)
          · refine opW.loadV (by first | exact gv_of rfl hg70 | rfl) (hS.ld1 (by first | exact .h0 | exact .h1 | exact .h2 | exact .h3 | exact .h4 | exact .h5 | exact .h6 | exact .h7 | exact .h8 | exact .h9 | exact .h10 | exact .h11 | exact .h12 | exact .h13 | exact .h14) (Message.at_lookups m)) ⟨rfl, Bel.refl _⟩
          replace hS := hS.bel hw
          refine WL.gd _ 68 _ rfl rfl rfl rfl (fun hg71 => opW.moveI rfl ⟨rfl, Bel.refl _⟩) (fun w hw => ?_)
          replace hS := hS.bel hw
          refine WL.gd _ 68 _ rfl rfl rfl rfl (fun hg72 => opW.idxV (by first | exact gv_of rfl hg72 | rfl) ((hc.l.bel hS.old)) (by first | exact gv_of rfl hg72 | rfl) (by omega) ⟨rfl, Bel.refl _⟩) (fun w hw => ?_)
          replace hS := hS.bel hw
          refine WL.gd _ 68 _ rfl rfl rfl rfl (fun hg73 => opW.fieldAddr (by first | exact gv_of rfl hg73 | rfl) ((hc.l.bel hS.old).isP hkl) ⟨rfl, Bel.refl _⟩) (fun w hw => ?_)
          replace hS := hS.bel hw
          refine WL.gd _ 68 lks[k].reads.v rfl rfl rfl rfl (fun hg74 => ?_) (fun w hw => ?_)
          · refine opW.loadV (by first | exact gv_of rfl hg74 | rfl) (Ld.pt1 ((hc.l.bel hS.old).isPt hkl) 33 (Lookup.at_reads _)) ⟨rfl, Bel.refl _⟩
          replace hS := hS.bel hw
          refine WL.gd _ 68 _ rfl rfl rfl rfl (fun hg75 => opW.lenV (by first | exact gv_of rfl hg75 | rfl) ((hld.bel hS.old)) ⟨rfl, Bel.refl _⟩) (fun w hw => ?_)
          replace hS := hS.bel hw
          refine WL.gd _ 68 _ rfl rfl rfl rfl (fun hg76 => opW.leq (by first | exact gv_of rfl hg76 | rfl) rfl ⟨rfl, Bel.refl _⟩) (fun w hw => ?_)
          replace hS := hS.bel hw
          refine WL.op rfl (opW.pickAnd rfl (by first | rfl) rfl ?_)
          refine WL.op rfl (opW.assignB rfl ?_)
          refine WL.nil ?_
          refine blockQ_n ?_
          refine thenQ_n (hK12 _ _ ?_)
          refine WC.region ?_
          refine WL.op rfl (opW.moveI rfl ?_)
          refine WL.op rfl (opW.add rfl rfl (wrap_i64 (by omega)) ?_)
          refine WL.op rfl (opW.assignI rfl ?_)
          refine WL.nil ?_
          refine thenQ_n ?_
          exact ⟨lks.length - (k + 1), by omega, k + 1, ⟨rfl, (by rw [okA_step _ hkc]; rfl), congrArg (Value.int .i64) (by omega), trivial⟩, hS, by omega, rfl⟩
        ·
          have hr1 := hc1
          try simp only [decide_eq_true_eq, decide_eq_false_iff_not, Bool.and_eq_true, Bool.or_eq_true, Bool.and_eq_false_iff, Bool.or_eq_false_iff, Bool.not_eq_true', Bool.not_eq_false', Int.not_lt, Int.not_le] at hc1
          obtain rfl : k = lks.length := by omega
          rw [List.take_of_length_le (by omega)]
          refine WC.exit ?_
          refine thenQ_e ?_
          refine thenQ_e ?_
          refine blockQ_hit ?_
          refine thenQ_n (hK8 _ _ ?_)
          refine WC.seq (fun K13 hK13 => ?_)
          refine WC.region ?_
          refine WL.op rfl (opW.moveB rfl ?_)
          refine WL.op rfl (opW.moveB rfl ?_)
          refine WL.gd _ 79 _ rfl rfl rfl rfl (fun hg80 => opW.fieldAddrB rfl ⟨rfl, Bel.refl _⟩) (fun w hw => ?_)
          replace hS := hS.bel hw
          refine WL.gd _ 79 (.bool m.v0) rfl rfl rfl rfl (fun hg81 => ?_) (fun w hw => ?_)
          · refine opW.loadV (by first | exact gv_of rfl hg81 | rfl) (hS.ld1 (by first | exact .h0 | exact .h1 | exact .h2 | exact .h3 | exact .h4 | exact .h5 | exact .h6 | exact .h7 | exact .h8 | exact .h9 | exact .h10 | exact .h11 | exact .h12 | exact .h13 | exact .h14) (Message.at_v0 m)) ⟨rfl, Bel.refl _⟩
          replace hS := hS.bel hw
          refine WL.gd _ 79 _ rfl rfl rfl rfl (fun hg82 => opW.moveB (by first | exact gv_of rfl hg82 | rfl) ⟨rfl, Bel.refl _⟩) (fun w hw => ?_)
          replace hS := hS.bel hw
          refine WL.gd2 _ _ 82 _ rfl rfl rfl rfl (fun hg83 => opW.fieldAddrB rfl ⟨rfl, Bel.refl _⟩) (fun w hw => ?_)
          replace hS := hS.bel hw
          refine WL.gd2 _ _ 82 m.lookups.v rfl rfl rfl rfl (fun hg84 => ?_) (fun w hw => ?_)
          · refine opW.loadV (by first | exact gv_of rfl hg84 | rfl) (hS.ld1 (by first | exact .h0 | exact .h1 | exact .h2 | exact .h3 | exact .h4 | exact .h5 | exact .h6 | exact .h7 | exact .h8 | exact .h9 | exact .h10 | exact .h11 | exact .h12 | exact .h13 | exact .h14) (Message.at_lookups m)) ⟨rfl, Bel.refl _⟩
          replace hS := hS.bel hw
          refine WL.gd2 _ _ 82 _ rfl rfl rfl rfl (fun hg85 => opW.lenV (by first | exact gv_of rfl hg85 | rfl) ((hc.l.bel hS.old)) ⟨rfl, Bel.refl _⟩) (fun w hw => ?_)
          replace hS := hS.bel hw
          refine WL.gd2 _ _ 82 _ rfl rfl rfl rfl (fun hg86 => opW.eql (by first | exact gv_of rfl hg86 | rfl) rfl ⟨rfl, Bel.refl _⟩) (fun w hw => ?_)
          replace hS := hS.bel hw
          refine WL.gd2 _ _ 82 _ rfl rfl rfl rfl (fun hg87 => opW.moveB (by first | exact gv_of rfl hg87 | rfl) ⟨rfl, Bel.refl _⟩) (fun w hw => ?_)
          replace hS := hS.bel hw
          refine WL.gd2 _ _ 87 _ rfl rfl rfl rfl (fun hg88 => opW.fieldAddrB rfl ⟨rfl, Bel.refl _⟩) (fun w hw => ?_)
          replace hS := hS.bel hw
          refine WL.gd2 _ _ 87 _ rfl rfl rfl rfl (fun hg89 => opW.fieldAddrB (by first | exact gv_of rfl hg89 | rfl) ⟨rfl, Bel.refl _⟩) (fun w hw => ?_)
          replace hS := hS.bel hw
          refine WL.gd2 _ _ 87 (.int .u8 (m.header.signers.toNat : Int)) rfl rfl rfl rfl (fun hg90 => ?_) (fun w hw => ?_)
          · refine opW.loadV (by first | exact gv_of rfl hg90 | rfl) (hS.ld1 (by first | exact .h0 | exact .h1 | exact .h2 | exact .h3 | exact .h4 | exact .h5 | exact .h6 | exact .h7 | exact .h8 | exact .h9 | exact .h10 | exact .h11 | exact .h12 | exact .h13 | exact .h14) (Message.at_header_signers m)) ⟨rfl, Bel.refl _⟩
          replace hS := hS.bel hw
          refine WL.gd2 _ _ 87 _ rfl rfl rfl rfl (fun hg91 => opW.lss (by first | exact gv_of rfl hg91 | rfl) rfl ⟨rfl, Bel.refl _⟩) (fun w hw => ?_)
          replace hS := hS.bel hw
          refine WL.gd2 _ _ 82 _ rfl rfl rfl rfl (fun hg92 => opW.pickAnd (by first | exact gv_of rfl hg92 | rfl) (by first | exact gv_and rfl hg92 | rfl) rfl ⟨rfl, Bel.refl _⟩) (fun w hw => ?_)
          replace hS := hS.bel hw
          refine WL.gd _ 79 _ rfl rfl rfl rfl (fun hg93 => opW.pickOr (by first | exact gv_of rfl hg93 | rfl) rfl (by first | exact gv_and rfl hg93 | rfl) ⟨rfl, Bel.refl _⟩) (fun w hw => ?_)
          replace hS := hS.bel hw
          refine WL.op rfl (opW.pickAnd rfl (by first | rfl) rfl ?_)
          refine WL.op rfl (opW.assignB rfl ?_)
          refine WL.nil ?_
          refine thenQ_n (hK13 _ _ ?_)
          refine WC.ret ?_
          refine bodyQ_ret (.tmpB rfl .nil) ?_
          refine ⟨congrArg Value.bool ?_, hS.old⟩
          rw [← may_eq, ← hc.v0, ← hc.h, ← hll]

theorem rlist_ok (wb w0 : World) (S : List Ent) (v l : Value) (xs ys : List UInt8) (hn : ys.length ≤ 65535) (hl : xs.length ≤ 10000000) (hy : ∀ w, St wb S w → SlR w l ys) (hS0 : St wb (ownE v 5 xs :: S) w0) : Ret Try.prog 58 #[v, l] w0 (fun u w' => St wb (ownE u 5 (xs ++ (shortB ys.length ++ ys)) :: S) w') := by
  refine Ret.enter (args := [v, l]) Try.func58 rfl Try.ntmps58 Try.results58 rfl ?_
  have hS := St.start w0
  replace hS := hS0
  refine WC.seq (fun K1 hK1 => ?_)
  refine WC.region ?_
  refine WL.op rfl (opW.assignV (v := .slice none 0 0) rfl ?_)
  refine WL.nil ?_
  refine thenQ_n (hK1 _ _ ?_)
  refine WC.seq (fun K2 hK2 => ?_)
  refine WC.region ?_
  refine WL.op rfl (opW.moveV (v := v) rfl ?_)
  refine WL.op rfl (opW.moveV (v := l) rfl ?_)
  refine WL.op rfl (opW.lenV rfl ((hy _ hS.drop1)) ?_)
  refine WL.op rfl (opW.call (rshort_ok _ ys.length hn) rfl ?_)
  rintro v8 w ⟨hn8, hw⟩; replace hS := hS.newOwn hw hn8.1 hn8.2
  have hsb := shortB_le ys.length
  refine WL.op rfl (opW.appendOwn (α := UInt8) (v := v) (xs := xs) rfl hS rfl (by first | exact .h0 | exact .h1 | exact .h2 | exact .h3 | exact .h4 | exact .h5 | exact .h6 | exact .h7 | exact .h8 | exact .h9 | exact .h10 | exact .h11 | exact .h12 | exact .h13 | exact .h14) (hS.sl (v := v8) (xs := shortB ys.length) (by first | exact .h0 | exact .h1 | exact .h2 | exact .h3 | exact .h4 | exact .h5 | exact .h6 | exact .h7 | exact .h8 | exact .h9 | exact .h10 | exact .h11 | exact .h12 | exact .h13 | exact .h14)) (by (try simp only [List.length_append, List.length_cons, List.length_nil, Vector.length_toList]); omega) (by (try simp only [List.length_append, List.length_cons, List.length_nil, Vector.length_toList, maxLen]); omega) ?_)
  intro v9 w hS; replace hS := hS _ (by first | exact .h0 | exact .h1 | exact .h2 | exact .h3 | exact .h4 | exact .h5 | exact .h6 | exact .h7 | exact .h8 | exact .h9 | exact .h10 | exact .h11 | exact .h12 | exact .h13 | exact .h14)
  refine WL.op rfl (opW.moveV (v := l) rfl ?_)
  refine WL.op rfl (opW.appendOwn (α := UInt8) (v := v9) (xs := xs ++ shortB ys.length) rfl hS rfl (by first | exact .h0 | exact .h1 | exact .h2 | exact .h3 | exact .h4 | exact .h5 | exact .h6 | exact .h7 | exact .h8 | exact .h9 | exact .h10 | exact .h11 | exact .h12 | exact .h13 | exact .h14) (hy _ (hS.sub (by repeat (first | with_reducible exact List.nil_sublist _ | with_reducible exact List.Sublist.refl _ | with_reducible refine List.Sublist.cons₂ _ ?_ | with_reducible refine List.Sublist.cons _ ?_)))) (by (try simp only [List.length_append, List.length_cons, List.length_nil, Vector.length_toList]); omega) (by (try simp only [List.length_append, List.length_cons, List.length_nil, Vector.length_toList, maxLen]); omega) ?_)
  intro v11 w hS; replace hS := hS _ (by first | exact .h0 | exact .h1 | exact .h2 | exact .h3 | exact .h4 | exact .h5 | exact .h6 | exact .h7 | exact .h8 | exact .h9 | exact .h10 | exact .h11 | exact .h12 | exact .h13 | exact .h14)
  refine WL.op rfl (opW.assignV (v := v11) rfl ?_)
  refine WL.nil ?_
  refine thenQ_n (hK2 _ _ ?_)
  refine WC.ret ?_
  refine bodyQ_ret (.tmpV (v := v11) rfl .nil) ?_
  simp only [List.append_assoc] at hS
  show St wb (ownE v11 5 (xs ++ (shortB ys.length ++ ys)) :: S) w
  exact hS.sub (by repeat (first | with_reducible exact List.nil_sublist _ | with_reducible exact List.Sublist.refl _ | with_reducible refine List.Sublist.cons₂ _ ?_ | with_reducible refine List.Sublist.cons _ ?_))

end Go.Fer
