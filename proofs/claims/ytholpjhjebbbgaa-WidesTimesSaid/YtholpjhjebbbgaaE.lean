/- WidesTimes -/
import Derived.Test.YtholpjhjebbbgaaC
set_option linter.all false
namespace Go.Fer
open Go Go.Proofs Go.RowKit

theorem times_own {a d : Nat} (ha : a < 18446744073709551616) (hd : d ≠ 0) (up : Bool) : tmF a d d up = a := by
  have h1 : a * d / 18446744073709551616 < d := by
    rw [Nat.div_lt_iff_lt_mul (by decide), Nat.mul_comm d]
    exact (Nat.mul_lt_mul_right (by omega)).2 ha
  unfold tmF
  rw [if_neg (by omega), Nat.mul_mod_left, if_neg (by simp), Nat.mul_div_cancel _ (by omega)]
theorem times_zero (a b : Nat) (up : Bool) : tmF a b 0 up = 18446744073709551615 := by unfold tmF; rw [if_pos (Nat.zero_le _)]
theorem times_facts {a b d : Nat} (hd0 : d ≠ 0) (hd : d < 18446744073709551616) : tmF a b d false * d ≤ a * b ∧ tmF a b d false < 18446744073709551616 ∧ tmF a b d true < 18446744073709551616 ∧
    ((d ≤ a * b - tmF a b d false * d ∧ tmF a b d false = 18446744073709551615 ∧ tmF a b d true = 18446744073709551615) ∨
     (a * b - tmF a b d false * d < d ∧ (tmF a b d true = tmF a b d false ↔ (a * b = tmF a b d false * d ∨ tmF a b d false = 18446744073709551615)) ∧ tmF a b d false ≤ tmF a b d true ∧ tmF a b d true ≤ tmF a b d false + 1)) := by
  have hP := Nat.div_add_mod' (a * b) 18446744073709551616
  by_cases h : d ≤ a * b / 18446744073709551616
  · have e1 (up : Bool) : tmF a b d up = 18446744073709551615 := by unfold tmF; rw [if_pos h]
    rw [e1, e1]
    have h2 : d * 18446744073709551616 ≤ a * b / 18446744073709551616 * 18446744073709551616 := Nat.mul_le_mul_right _ h
    have h3 : 18446744073709551615 * d + d = d * 18446744073709551616 := by omega
    generalize a * b = z at *
    refine ⟨by omega, by omega, by omega, .inl ⟨by omega, rfl, rfl⟩⟩
  · have hq := quoLt h
    have hD := Nat.div_add_mod' (a * b) d
    have hm := Nat.mod_lt (a * b) (show 0 < d by omega)
    have e1 : tmF a b d false = a * b / d := by unfold tmF; rw [if_neg h, if_neg (by simp)]
    have e2 : tmF a b d true = if 0 < a * b % d then sumH (a * b / d) 1 else a * b / d := by
      unfold tmF; rw [if_neg h]; simp
    rw [e1, e2]
    generalize a * b / d * d = z at *
    generalize a * b % d = r at *
    generalize a * b / d = n at *
    generalize a * b = p at *
    unfold sumH
    refine ⟨by omega, by omega, by split <;> (try split) <;> omega, .inr ⟨by omega, ?_, ?_, ?_⟩⟩
    · split <;> (try split) <;> constructor <;> intro h <;> omega
    · split <;> (try split) <;> omega
    · split <;> (try split) <;> omega

theorem times_law (w0 : World) (a b d : Nat) (ha : a < 18446744073709551616) (hb : b < 18446744073709551616) (hd : d < 18446744073709551616) : Ret Try.prog 4 #[.int .u64 ((a : Nat) : Int), .int .u64 ((b : Nat) : Int), .int .u64 ((d : Nat) : Int)] w0 (fun r w' => r = .bool true ∧ Bel w0 w') := by
  refine Ret.enter (args := [.int .u64 ((a : Nat) : Int), .int .u64 ((b : Nat) : Int), .int .u64 ((d : Nat) : Int)]) Try.func4 rfl Try.ntmps4 Try.results4 rfl ?_
  have hS := St.start w0
  obtain ⟨n, hn⟩ : ∃ n, n = tmF a b d false := ⟨_, rfl⟩
  obtain ⟨u, hu⟩ : ∃ u, u = tmF a b d true := ⟨_, rfl⟩
  refine WC.seq (fun K1 hK1 => ?_)
  refine WC.region ?_
  refine WL.op rfl (opW.assignB rfl ?_)
  refine WL.nil ?_
  refine thenQ_n (hK1 _ _ ?_)
  refine WC.seq (fun K2 hK2 => ?_)
  refine WC.region ?_
  refine WL.op rfl (opW.moveI rfl ?_)
  refine WL.op rfl (opW.moveI rfl ?_)
  refine WL.op rfl (opW.moveI rfl ?_)
  refine WL.op rfl (opW.call (wtimes_ok _ a b d false ha hb hd) rfl ?_)
  rintro _ w ⟨rfl, hw⟩; replace hS := hS.bel hw
  rw [← hn]
  refine WL.op rfl (opW.assignI rfl ?_)
  refine WL.nil ?_
  refine thenQ_n (hK2 _ _ ?_)
  refine WC.seq (fun K3 hK3 => ?_)
  refine WC.region ?_
  refine WL.op rfl (opW.moveI rfl ?_)
  refine WL.op rfl (opW.moveI rfl ?_)
  refine WL.op rfl (opW.moveI rfl ?_)
  refine WL.op rfl (opW.call (wtimes_ok _ a b d true ha hb hd) rfl ?_)
  rintro _ w ⟨rfl, hw⟩; replace hS := hS.bel hw
  rw [← hu]
  refine WL.op rfl (opW.assignI rfl ?_)
  refine WL.nil ?_
  refine thenQ_n (hK3 _ _ ?_)
  refine WC.seq (fun K4 hK4 => ?_)
  refine WC.seq (fun K5 hK5 => ?_)
  refine WC.region ?_
  refine WL.op rfl (opW.moveI rfl ?_)
  refine WL.op rfl (opW.eql rfl rfl ?_)
  refine WL.nil ?_
  refine thenQ_n (hK5 _ _ ?_)
  refine WC.cond _ rfl (fun hc0 => ?_) (fun hc0 => ?_)
  ·
    have hr0 := hc0
    try simp only [decide_eq_true_eq, decide_eq_false_iff_not, Bool.and_eq_true, Bool.or_eq_true, Bool.and_eq_false_iff, Bool.or_eq_false_iff, Bool.not_eq_true', Bool.not_eq_false', Int.not_lt, Int.not_le] at hc0
    obtain rfl : d = 0 := by omega
    rw [times_zero] at hn hu
    refine WC.seq (fun K6 hK6 => ?_)
    refine WC.region ?_
    refine WL.op rfl (opW.moveI rfl ?_)
    refine WL.op rfl (opW.boolT (by rw [hn]; rfl) (opW.eql rfl rfl ⟨rfl, rfl⟩) ?_)
    refine WL.op rfl (opW.moveB rfl ?_)
    refine WL.gT 28 rfl rfl rfl (WL.op rfl (opW.moveI rfl ?_))
    refine WL.gT 28 rfl rfl rfl (WL.op rfl (opW.boolT (by rw [hu]; rfl) (opW.eql rfl rfl ⟨rfl, rfl⟩) ?_))
    refine WL.op rfl (opW.pickT rfl rfl ?_)
    refine WL.op rfl (opW.moveB rfl ?_)
    refine WL.gT 32 rfl rfl rfl (WL.op rfl (opW.call (lives02 _) rfl ?_))
    rintro _ w ⟨rfl, hw⟩; replace hS := hS.bel hw
    refine WL.op rfl (opW.pickT rfl rfl ?_)
    refine WL.op rfl (opW.assignB rfl ?_)
    refine WL.nil ?_
    refine thenQ_n (hK6 _ _ ?_)
    refine WC.ret ?_
    refine thenQ_r ?_
    refine bodyQ_ret (.tmpB rfl .nil) ?_
    first | exact ⟨rfl, hS.old⟩ | (refine ⟨congrArg Value.bool ?_, hS.old⟩; rw [e3, e1, e2]; simp)
  ·
    have hr0 := hc0
    try simp only [decide_eq_true_eq, decide_eq_false_iff_not, Bool.and_eq_true, Bool.or_eq_true, Bool.and_eq_false_iff, Bool.or_eq_false_iff, Bool.not_eq_true', Bool.not_eq_false', Int.not_lt, Int.not_le] at hc0
    have hd0 : d ≠ 0 := by omega
    obtain ⟨f1, f2, f3, f4⟩ := times_facts (a := a) (b := b) hd0 hd
    rw [← hn, ← hu] at f4
    rw [← hn] at f1 f2
    rw [← hu] at f3
    refine WC.skip ?_
    refine thenQ_n (hK4 _ _ ?_)
    refine WC.seq (fun K7 hK7 => ?_)
    refine WC.seq (fun K8 hK8 => ?_)
    refine WC.region ?_
    refine WL.op rfl (opW.moveI rfl ?_)
    refine WL.op rfl (opW.moveI rfl ?_)
    refine WL.op rfl (opW.moveI rfl ?_)
    refine WL.op rfl (opW.call (wtimes_ok _ a d d false ha hd hd) rfl ?_)
    rintro _ w ⟨rfl, hw⟩; replace hS := hS.bel hw
    rw [times_own ha hd0]
    refine WL.op rfl (opW.moveI rfl ?_)
    refine WL.op rfl (opW.boolF (by simp) (opW.neq rfl rfl ⟨rfl, rfl⟩) ?_)
    refine WL.op rfl (opW.moveB rfl ?_)
    refine WL.gT 41 rfl rfl rfl (WL.op rfl (opW.moveI rfl ?_))
    refine WL.gT 41 rfl rfl rfl (WL.op rfl (opW.moveI rfl ?_))
    refine WL.gT 41 rfl rfl rfl (WL.op rfl (opW.moveI rfl ?_))
    refine WL.gT 41 rfl rfl rfl (WL.op rfl (opW.call (wtimes_ok _ a d d true ha hd hd) rfl ?_))
    rintro _ w ⟨rfl, hw⟩; replace hS := hS.bel hw
    rw [times_own ha hd0]
    refine WL.gT 41 rfl rfl rfl (WL.op rfl (opW.moveI rfl ?_))
    refine WL.gT 41 rfl rfl rfl (WL.op rfl (opW.boolF (by simp) (opW.neq rfl rfl ⟨rfl, rfl⟩) ?_))
    refine WL.op rfl (opW.pickT rfl rfl ?_)
    refine WL.nil ?_
    refine thenQ_n (hK8 _ _ ?_)
    refine WC.cond _ rfl (fun hc1 => ?_) (fun hc1 => ?_)
    ·
      have hr1 := hc1
      try simp only [decide_eq_true_eq, decide_eq_false_iff_not, Bool.and_eq_true, Bool.or_eq_true, Bool.and_eq_false_iff, Bool.or_eq_false_iff, Bool.not_eq_true', Bool.not_eq_false', Int.not_lt, Int.not_le] at hc1
      simp at hr1
    ·
      have hr1 := hc1
      try simp only [decide_eq_true_eq, decide_eq_false_iff_not, Bool.and_eq_true, Bool.or_eq_true, Bool.and_eq_false_iff, Bool.or_eq_false_iff, Bool.not_eq_true', Bool.not_eq_false', Int.not_lt, Int.not_le] at hc1
      refine WC.skip ?_
      refine thenQ_n (hK7 _ _ ?_)
      refine WC.seq (fun K9 hK9 => ?_)
      refine WC.region ?_
      refine WL.op rfl (opW.moveI rfl ?_)
      refine WL.op rfl (opW.moveI rfl ?_)
      refine WL.op rfl (opW.call (wmul_ok _ a b ha hb) rfl ?_)
      rintro _ w ⟨rfl, hw⟩; replace hS := hS.bel hw
      refine WL.op rfl (opW.moveV (v := .tuple #[.int .u64 ((a * b / 18446744073709551616 : Nat) : Int), .int .u64 ((a * b % 18446744073709551616 : Nat) : Int)]) rfl ?_)
      refine WL.op rfl (opW.extract rfl rfl ?_)
      refine WL.op rfl (opW.extract rfl rfl ?_)
      refine WL.op rfl (opW.assignI rfl ?_)
      refine WL.op rfl (opW.assignI rfl ?_)
      refine WL.nil ?_
      refine thenQ_n (hK9 _ _ ?_)
      refine WC.seq (fun K10 hK10 => ?_)
      refine WC.region ?_
      refine WL.op rfl (opW.moveI rfl ?_)
      refine WL.op rfl (opW.moveI rfl ?_)
      refine WL.op rfl (opW.call (wmul_ok _ n d f2 hd) rfl ?_)
      rintro _ w ⟨rfl, hw⟩; replace hS := hS.bel hw
      refine WL.op rfl (opW.moveV (v := .tuple #[.int .u64 ((n * d / 18446744073709551616 : Nat) : Int), .int .u64 ((n * d % 18446744073709551616 : Nat) : Int)]) rfl ?_)
      refine WL.op rfl (opW.extract rfl rfl ?_)
      refine WL.op rfl (opW.extract rfl rfl ?_)
      refine WL.op rfl (opW.assignI rfl ?_)
      refine WL.op rfl (opW.assignI rfl ?_)
      refine WL.nil ?_
      refine thenQ_n (hK10 _ _ ?_)
      refine WC.seq (fun K11 hK11 => ?_)
      refine WC.seq (fun K12 hK12 => ?_)
      refine WC.region ?_
      refine WL.op rfl (opW.moveI rfl ?_)
      refine WL.op rfl (opW.moveI rfl ?_)
      refine WL.op rfl (opW.gtr rfl rfl ?_)
      refine WL.op rfl (opW.moveB rfl ?_)
      refine WL.gd _ 64 _ rfl rfl rfl rfl (fun hg65 => opW.moveI rfl ⟨rfl, Bel.refl _⟩) (fun w hw => ?_)
      replace hS := hS.bel hw
      refine WL.gd _ 64 _ rfl rfl rfl rfl (fun hg66 => opW.moveI rfl ⟨rfl, Bel.refl _⟩) (fun w hw => ?_)
      replace hS := hS.bel hw
      refine WL.gd _ 64 _ rfl rfl rfl rfl (fun hg67 => opW.eql (by first | exact gv_of rfl hg67 | rfl) (by first | exact gv_of rfl hg67 | rfl) ⟨rfl, Bel.refl _⟩) (fun w hw => ?_)
      replace hS := hS.bel hw
      refine WL.gd _ 64 _ rfl rfl rfl rfl (fun hg68 => opW.moveB (by first | exact gv_of rfl hg68 | rfl) ⟨rfl, Bel.refl _⟩) (fun w hw => ?_)
      replace hS := hS.bel hw
      refine WL.gd2 _ _ 68 _ rfl rfl rfl rfl (fun hg69 => opW.moveI rfl ⟨rfl, Bel.refl _⟩) (fun w hw => ?_)
      replace hS := hS.bel hw
      refine WL.gd2 _ _ 68 _ rfl rfl rfl rfl (fun hg70 => opW.moveI rfl ⟨rfl, Bel.refl _⟩) (fun w hw => ?_)
      replace hS := hS.bel hw
      refine WL.gd2 _ _ 68 _ rfl rfl rfl rfl (fun hg71 => opW.gtr (by first | exact gv_of rfl hg71 | rfl) (by first | exact gv_of rfl hg71 | rfl) ⟨rfl, Bel.refl _⟩) (fun w hw => ?_)
      replace hS := hS.bel hw
      refine WL.gd _ 64 _ rfl rfl rfl rfl (fun hg72 => opW.pickAnd (by first | exact gv_of rfl hg72 | rfl) (by first | exact gv_and rfl hg72 | rfl) rfl ⟨rfl, Bel.refl _⟩) (fun w hw => ?_)
      replace hS := hS.bel hw
      refine WL.op rfl (opW.pickOr rfl rfl (by first | rfl) ?_)
      refine WL.op rfl (opW.moveB rfl ?_)
      refine WL.gd _ 74 _ rfl rfl rfl rfl (fun hg75 => opW.moveI rfl ⟨rfl, Bel.refl _⟩) (fun w hw => ?_)
      replace hS := hS.bel hw
      refine WL.gd _ 74 _ rfl rfl rfl rfl (fun hg76 => opW.moveI rfl ⟨rfl, Bel.refl _⟩) (fun w hw => ?_)
      replace hS := hS.bel hw
      refine WL.gd _ 74 _ rfl rfl rfl rfl (fun hg77 => opW.lss (by first | exact gv_of rfl hg77 | rfl) (by first | exact gv_of rfl hg77 | rfl) ⟨rfl, Bel.refl _⟩) (fun w hw => ?_)
      replace hS := hS.bel hw
      refine WL.op rfl (opW.pickOr rfl rfl (by first | rfl) ?_)
      refine WL.op rfl (opW.moveB rfl ?_)
      refine WL.gd _ 79 _ rfl rfl rfl rfl (fun hg80 => opW.moveI rfl ⟨rfl, Bel.refl _⟩) (fun w hw => ?_)
      replace hS := hS.bel hw
      refine WL.gd _ 79 _ rfl rfl rfl rfl (fun hg81 => opW.moveI rfl ⟨rfl, Bel.refl _⟩) (fun w hw => ?_)
      replace hS := hS.bel hw
      refine WL.gd _ 79 _ rfl rfl rfl rfl (fun hg82 => opW.gtr (by first | exact gv_of rfl hg82 | rfl) (by first | exact gv_of rfl hg82 | rfl) ⟨rfl, Bel.refl _⟩) (fun w hw => ?_)
      replace hS := hS.bel hw
      refine WL.gd _ 79 _ rfl rfl rfl rfl (fun hg83 => opW.moveB (by first | exact gv_of rfl hg83 | rfl) ⟨rfl, Bel.refl _⟩) (fun w hw => ?_)
      replace hS := hS.bel hw
      refine WL.gd2 _ _ 83 _ rfl rfl rfl rfl (fun hg84 => opW.moveI rfl ⟨rfl, Bel.refl _⟩) (fun w hw => ?_)
      replace hS := hS.bel hw
      refine WL.gd2 _ _ 83 _ rfl rfl rfl rfl (fun hg85 => opW.moveI rfl ⟨rfl, Bel.refl _⟩) (fun w hw => ?_)
      replace hS := hS.bel hw
      refine WL.gd2 _ _ 83 _ rfl rfl rfl rfl (fun hg86 => opW.sub (by first | exact gv_of rfl hg86 | rfl) (by first | exact gv_of rfl hg86 | rfl) (nsubM u n (by omega)) ⟨rfl, Bel.refl _⟩) (fun w hw => ?_)
      replace hS := hS.bel hw
      refine WL.gd2 _ _ 83 _ rfl rfl rfl rfl (fun hg87 => opW.gtr (by first | exact gv_of rfl hg87 | rfl) rfl ⟨rfl, Bel.refl _⟩) (fun w hw => ?_)
      replace hS := hS.bel hw
      refine WL.gd _ 79 _ rfl rfl rfl rfl (fun hg88 => opW.pickAnd (by first | exact gv_of rfl hg88 | rfl) (by first | exact gv_and rfl hg88 | rfl) rfl ⟨rfl, Bel.refl _⟩) (fun w hw => ?_)
      replace hS := hS.bel hw
      refine WL.op rfl (opW.pickOr rfl rfl (by first | rfl) ?_)
      refine WL.nil ?_
      refine thenQ_n (hK12 _ _ ?_)
      refine WC.cond _ rfl (fun hc2 => ?_) (fun hc2 => ?_)
      ·
        have hr2 := hc2
        try simp only [decide_eq_true_eq, decide_eq_false_iff_not, Bool.and_eq_true, Bool.or_eq_true, Bool.and_eq_false_iff, Bool.or_eq_false_iff, Bool.not_eq_true', Bool.not_eq_false', Int.not_lt, Int.not_le] at hc2
        simp only [Bool.or_eq_true, Bool.and_eq_true, decide_eq_true_eq] at hr2
        generalize a * b = P at *
        generalize n * d = Q at *
        omega
      ·
        have hr2 := hc2
        try simp only [decide_eq_true_eq, decide_eq_false_iff_not, Bool.and_eq_true, Bool.or_eq_true, Bool.and_eq_false_iff, Bool.or_eq_false_iff, Bool.not_eq_true', Bool.not_eq_false', Int.not_lt, Int.not_le] at hc2
        refine WC.skip ?_
        refine thenQ_n (hK11 _ _ ?_)
        refine WC.seq (fun K13 hK13 => ?_)
        refine WC.region ?_
        refine WL.op rfl (opW.moveI rfl ?_)
        refine WL.op rfl (opW.moveI rfl ?_)
        refine WL.op rfl (opW.sub rfl rfl (nsubM _ _ (by omega)) ?_)
        refine WL.op rfl (opW.assignI rfl ?_)
        refine WL.nil ?_
        refine thenQ_n (hK13 _ _ ?_)
        refine WC.mid (fun f w => ∃ h r : Nat, Fits [(2, .int .u64 ((d : Nat) : Int)), (7, .int .u64 ((n : Nat) : Int)), (8, .int .u64 ((u : Nat) : Int)), (9, .int .u64 ((h : Nat) : Int)), (11, .int .u64 ((n * d / 18446744073709551616 : Nat) : Int)), (13, .int .u64 ((r : Nat) : Int))] f ∧ St w0 [] w ∧ h = n * d / 18446744073709551616 + (a * b - n * d) / 18446744073709551616 ∧ r = (a * b - n * d) % 18446744073709551616) ?_ ?_
        ·
          refine WC.seq (fun K14 hK14 => ?_)
          refine WC.region ?_
          refine WL.op rfl (opW.moveI rfl ?_)
          refine WL.op rfl (opW.moveI rfl ?_)
          refine WL.op rfl (opW.lss rfl rfl ?_)
          refine WL.nil ?_
          refine thenQ_n (hK14 _ _ ?_)
          refine WC.cond _ rfl (fun hc3 => ?_) (fun hc3 => ?_)
          ·
            have hr3 := hc3
            try simp only [decide_eq_true_eq, decide_eq_false_iff_not, Bool.and_eq_true, Bool.or_eq_true, Bool.and_eq_false_iff, Bool.or_eq_false_iff, Bool.not_eq_true', Bool.not_eq_false', Int.not_lt, Int.not_le] at hc3
            refine WC.region ?_
            refine WL.op rfl (opW.moveI rfl ?_)
            refine WL.op rfl (opW.sub rfl rfl (nsub (b := 1) (by have h6 := Nat.div_add_mod' (a * b) 18446744073709551616; have h7 := Nat.div_add_mod' (n * d) 18446744073709551616; omega) (by have := mulHi_lt ha hb; omega)) ?_)
            refine WL.op rfl (opW.assignI rfl ?_)
            refine WL.nil ?_
            refine thenQ_n ?_
            first | exact ⟨_, _, ⟨rfl, rfl, rfl, rfl, rfl, rfl, trivial⟩, hS, by generalize a * b = P at *; generalize n * d = Q at *; omega, by generalize a * b = P at *; generalize n * d = Q at *; omega⟩
          ·
            have hr3 := hc3
            try simp only [decide_eq_true_eq, decide_eq_false_iff_not, Bool.and_eq_true, Bool.or_eq_true, Bool.and_eq_false_iff, Bool.or_eq_false_iff, Bool.not_eq_true', Bool.not_eq_false', Int.not_lt, Int.not_le] at hc3
            refine WC.skip ?_
            refine thenQ_n ?_
            first | exact ⟨_, _, ⟨rfl, rfl, rfl, rfl, rfl, rfl, trivial⟩, hS, by generalize a * b = P at *; generalize n * d = Q at *; omega, by generalize a * b = P at *; generalize n * d = Q at *; omega⟩
        ·
          rintro f w ⟨h, r, hfit, hS, hh, hr⟩
          refine WC.fits _ hfit (fun g => ?_)
          clear hfit
          refine WC.seq (fun K15 hK15 => ?_)
          refine WC.region ?_
          refine WL.op rfl (opW.moveI rfl ?_)
          refine WL.op rfl (opW.moveI rfl ?_)
          refine WL.op rfl (opW.eql rfl rfl ?_)
          refine WL.op rfl (opW.moveB rfl ?_)
          refine WL.gd _ 101 _ rfl rfl rfl rfl (fun hg102 => opW.moveI rfl ⟨rfl, Bel.refl _⟩) (fun w hw => ?_)
          replace hS := hS.bel hw
          refine WL.gd _ 101 _ rfl rfl rfl rfl (fun hg103 => opW.eql (by first | exact gv_of rfl hg103 | rfl) rfl ⟨rfl, Bel.refl _⟩) (fun w hw => ?_)
          replace hS := hS.bel hw
          refine WL.op rfl (opW.pickAnd rfl (by first | rfl) rfl ?_)
          refine WL.op rfl (opW.assignB rfl ?_)
          refine WL.nil ?_
          refine thenQ_n (hK15 _ _ ?_)
          refine WC.seq (fun K16 hK16 => ?_)
          refine WC.region ?_
          refine WL.op rfl (opW.moveI rfl ?_)
          refine WL.op rfl (opW.eql rfl rfl ?_)
          refine WL.op rfl (opW.moveB rfl ?_)
          refine WL.gd _ 107 _ rfl rfl rfl rfl (fun hg108 => opW.moveI rfl ⟨rfl, Bel.refl _⟩) (fun w hw => ?_)
          replace hS := hS.bel hw
          refine WL.gd _ 107 _ rfl rfl rfl rfl (fun hg109 => opW.moveI rfl ⟨rfl, Bel.refl _⟩) (fun w hw => ?_)
          replace hS := hS.bel hw
          refine WL.gd _ 107 _ rfl rfl rfl rfl (fun hg110 => opW.neq (by first | exact gv_of rfl hg110 | rfl) (by first | exact gv_of rfl hg110 | rfl) ⟨rfl, Bel.refl _⟩) (fun w hw => ?_)
          replace hS := hS.bel hw
          refine WL.gd _ 107 _ rfl rfl rfl rfl (fun hg111 => opW.moveB (by first | exact gv_of rfl hg111 | rfl) ⟨rfl, Bel.refl _⟩) (fun w hw => ?_)
          replace hS := hS.bel hw
          refine WL.gd2 _ _ 111 _ rfl rfl rfl rfl (fun hg112 => opW.moveI rfl ⟨rfl, Bel.refl _⟩) (fun w hw => ?_)
          replace hS := hS.bel hw
          refine WL.gd2 _ _ 111 _ rfl rfl rfl rfl (fun hg113 => opW.moveI rfl ⟨rfl, Bel.refl _⟩) (fun w hw => ?_)
          replace hS := hS.bel hw
          refine WL.gd2 _ _ 111 _ rfl rfl rfl rfl (fun hg114 => opW.geq (by first | exact gv_of rfl hg114 | rfl) (by first | exact gv_of rfl hg114 | rfl) ⟨rfl, Bel.refl _⟩) (fun w hw => ?_)
          replace hS := hS.bel hw
          refine WL.gd _ 107 _ rfl rfl rfl rfl (fun hg115 => opW.pickOr (by first | exact gv_of rfl hg115 | rfl) rfl (by first | exact gv_and rfl hg115 | rfl) ⟨rfl, Bel.refl _⟩) (fun w hw => ?_)
          replace hS := hS.bel hw
          refine WL.op rfl (opW.pickAnd rfl (by first | rfl) rfl ?_)
          refine WL.op rfl (opW.assignB rfl ?_)
          refine WL.nil ?_
          refine thenQ_n (hK16 _ _ ?_)
          refine WC.seq (fun K17 hK17 => ?_)
          refine WC.seq (fun K18 hK18 => ?_)
          refine WC.region ?_
          obtain ⟨D, hD⟩ : ∃ D, D = a * b - n * d := ⟨_, rfl⟩
          rw [← hD] at hh hr f4
          refine WL.op rfl (opW.moveB rfl ?_)
          refine WL.nil ?_
          refine thenQ_n (hK18 _ _ ?_)
          refine WC.cond _ rfl (fun hc4 => ?_) (fun hc4 => ?_)
          ·
            have hr4 := hc4
            try simp only [decide_eq_true_eq, decide_eq_false_iff_not, Bool.and_eq_true, Bool.or_eq_true, Bool.and_eq_false_iff, Bool.or_eq_false_iff, Bool.not_eq_true', Bool.not_eq_false', Int.not_lt, Int.not_le] at hc4
            have hb5 : d ≤ D := by
              simp only [Bool.or_eq_true, Bool.and_eq_true, decide_eq_true_eq, Bool.not_eq_true', decide_eq_false_iff_not] at hr4
              rcases f4 with g1 | g1
              · exact g1.1
              · exfalso; omega
            obtain ⟨_, _, hu5⟩ := f4.resolve_right (by omega)
            refine WC.seq (fun K19 hK19 => ?_)
            refine WC.region ?_
            refine WL.op rfl (opW.moveI rfl ?_)
            refine WL.op rfl (opW.boolT (by rw [hu5]; rfl) (opW.eql rfl rfl ⟨rfl, rfl⟩) ?_)
            refine WL.op rfl (opW.moveB rfl ?_)
            refine WL.gT 120 rfl rfl rfl (WL.op rfl (opW.call (lives02 _) rfl ?_))
            rintro _ w ⟨rfl, hw⟩; replace hS := hS.bel hw
            refine WL.op rfl (opW.pickT rfl rfl ?_)
            refine WL.op rfl (opW.assignB rfl ?_)
            refine WL.nil ?_
            refine thenQ_n (hK19 _ _ ?_)
            refine WC.ret ?_
            refine thenQ_r ?_
            refine bodyQ_ret (.tmpB rfl .nil) ?_
            first | exact ⟨rfl, hS.old⟩ | (refine ⟨congrArg Value.bool ?_, hS.old⟩; rw [e3, e1, e2]; simp)
          ·
            have hr4 := hc4
            try simp only [decide_eq_true_eq, decide_eq_false_iff_not, Bool.and_eq_true, Bool.or_eq_true, Bool.and_eq_false_iff, Bool.or_eq_false_iff, Bool.not_eq_true', Bool.not_eq_false', Int.not_lt, Int.not_le] at hc4
            have hb5 : D < d := by
              rcases f4 with g1 | g1
              · exfalso
                have : ((decide ((n : Int) = 18446744073709551615) && (!decide ((h : Int) = ((n * d / 18446744073709551616 : Nat) : Int)) || decide ((d : Int) ≤ (r : Int)))) : Bool) = true := by
                  simp only [Bool.or_eq_true, Bool.and_eq_true, decide_eq_true_eq, Bool.not_eq_true', decide_eq_false_iff_not]
                  omega
                rw [hr4] at this
                cases this
              · exact g1.1
            obtain ⟨_, g2, g3, g4⟩ := f4.resolve_left (by omega)
            have e1 : decide ((h : Int) = ((n * d / 18446744073709551616 : Nat) : Int)) = true := by simp only [decide_eq_true_eq]; omega
            have e2 : decide ((r : Int) < (d : Int)) = true := by simp only [decide_eq_true_eq]; omega
            have e3 : decide ((u : Int) = (n : Int)) = ((decide ((h : Int) = ((n * d / 18446744073709551616 : Nat) : Int)) && decide ((r : Int) = 0)) || decide ((n : Int) = 18446744073709551615)) := by
              rw [Bool.eq_iff_iff]
              simp only [Bool.or_eq_true, Bool.and_eq_true, decide_eq_true_eq]
              constructor
              · intro h9
                rcases g2.1 (by omega) with h8 | h8
                · left; omega
                · right; omega
              · intro h9
                have := g2.2 (by rcases h9 with h8 | h8 <;> omega)
                omega
            refine WC.skip ?_
            refine thenQ_n (hK17 _ _ ?_)
            refine WC.seq (fun K20 hK20 => ?_)
            refine WC.region ?_
            refine WL.op rfl (opW.moveI rfl ?_)
            refine WL.op rfl (opW.moveI rfl ?_)
            refine WL.op rfl (opW.eql rfl rfl ?_)
            refine WL.op rfl (opW.moveB rfl ?_)
            refine WL.gd _ 126 _ rfl rfl rfl rfl (fun hg127 => opW.moveI rfl ⟨rfl, Bel.refl _⟩) (fun w hw => ?_)
            replace hS := hS.bel hw
            refine WL.gd _ 126 _ rfl rfl rfl rfl (fun hg128 => opW.moveI rfl ⟨rfl, Bel.refl _⟩) (fun w hw => ?_)
            replace hS := hS.bel hw
            refine WL.gd _ 126 _ rfl rfl rfl rfl (fun hg129 => opW.lss (by first | exact gv_of rfl hg129 | rfl) (by first | exact gv_of rfl hg129 | rfl) ⟨rfl, Bel.refl _⟩) (fun w hw => ?_)
            replace hS := hS.bel hw
            refine WL.op rfl (opW.pickAnd rfl (by first | rfl) rfl ?_)
            refine WL.op rfl (opW.moveB rfl ?_)
            refine WL.gd _ 131 _ rfl rfl rfl rfl (fun hg132 => opW.moveI rfl ⟨rfl, Bel.refl _⟩) (fun w hw => ?_)
            replace hS := hS.bel hw
            refine WL.gd _ 131 _ rfl rfl rfl rfl (fun hg133 => opW.moveI rfl ⟨rfl, Bel.refl _⟩) (fun w hw => ?_)
            replace hS := hS.bel hw
            refine WL.gd _ 131 _ rfl rfl rfl rfl (fun hg134 => opW.eql (by first | exact gv_of rfl hg134 | rfl) (by first | exact gv_of rfl hg134 | rfl) ⟨rfl, Bel.refl _⟩) (fun w hw => ?_)
            replace hS := hS.bel hw
            refine WL.gd _ 131 _ rfl rfl rfl rfl (fun hg135 => opW.moveB rfl ⟨rfl, Bel.refl _⟩) (fun w hw => ?_)
            replace hS := hS.bel hw
            refine WL.gd _ 131 _ rfl rfl rfl rfl (fun hg136 => opW.moveB (by first | exact gv_of rfl hg136 | rfl) ⟨rfl, Bel.refl _⟩) (fun w hw => ?_)
            replace hS := hS.bel hw
            refine WL.gd2 _ _ 136 _ rfl rfl rfl rfl (fun hg137 => opW.moveI rfl ⟨rfl, Bel.refl _⟩) (fun w hw => ?_)
            replace hS := hS.bel hw
            refine WL.gd2 _ _ 136 _ rfl rfl rfl rfl (fun hg138 => opW.eql (by first | exact gv_of rfl hg138 | rfl) rfl ⟨rfl, Bel.refl _⟩) (fun w hw => ?_)
            replace hS := hS.bel hw
            refine WL.gd _ 131 _ rfl rfl rfl rfl (fun hg139 => opW.pickOr (by first | exact gv_of rfl hg139 | rfl) rfl (by first | exact gv_and rfl hg139 | rfl) ⟨rfl, Bel.refl _⟩) (fun w hw => ?_)
            replace hS := hS.bel hw
            refine WL.gd _ 131 _ rfl rfl rfl rfl (fun hg140 => opW.eqlB (by first | exact gv_of rfl hg140 | rfl) (by first | exact gv_of rfl hg140 | rfl) ⟨rfl, Bel.refl _⟩) (fun w hw => ?_)
            replace hS := hS.bel hw
            refine WL.op rfl (opW.pickAnd rfl (by first | rfl) rfl ?_)
            refine WL.op rfl (opW.moveB rfl ?_)
            refine WL.gd _ 142 (.bool true) rfl rfl rfl rfl (fun hg143 => ?_) (fun w hw => ?_)
            · refine opW.call (lives02 _) rfl ?_
              rintro _ w ⟨rfl, hw⟩; replace hS := hS.bel hw
              exact ⟨rfl, ‹_›⟩
            replace hS := hS.bel hw
            refine WL.op rfl (opW.pickAnd rfl (by first | rfl) rfl ?_)
            refine WL.op rfl (opW.assignB rfl ?_)
            refine WL.nil ?_
            refine thenQ_n (hK20 _ _ ?_)
            refine WC.ret ?_
            refine bodyQ_ret (.tmpB rfl .nil) ?_
            first | exact ⟨rfl, hS.old⟩ | (refine ⟨congrArg Value.bool ?_, hS.old⟩; rw [e3, e1, e2]; simp)

end Go.Fer
