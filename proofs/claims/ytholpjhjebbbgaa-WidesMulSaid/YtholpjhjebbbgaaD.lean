/- WidesMul -/
import Derived.Test.YtholpjhjebbbgaaC
set_option linter.all false
namespace Go.Fer
open Go Go.Proofs Go.RowKit

theorem mul_more {a b : Nat} (ha : a + 1 < 18446744073709551616) (hb : b < 18446744073709551616) {c : Nat} (hc : c = if 18446744073709551615 - b < a * b % 18446744073709551616 then 1 else 0) : (a + 1) * b % 18446744073709551616 = (a * b % 18446744073709551616 + b) % 18446744073709551616 ∧ (a + 1) * b / 18446744073709551616 = a * b / 18446744073709551616 + c ∧ a * b / 18446744073709551616 + c < 18446744073709551616 := by
  have h1 : (a + 1) * b = a * b + b := Nat.succ_mul a b
  have h2 := mulHi_lt (a := a + 1) (b := b) ha hb
  rw [h1] at h2
  rw [h1]
  generalize a * b = z at *
  subst hc
  split <;> omega

theorem mul_law (w0 : World) (a b : Nat) (ha : a < 18446744073709551616) (hb : b < 18446744073709551616) : Ret Try.prog 5 #[.int .u64 ((a : Nat) : Int), .int .u64 ((b : Nat) : Int)] w0 (fun r w' => r = .bool true ∧ Bel w0 w') := by
  refine Ret.enter (args := [.int .u64 ((a : Nat) : Int), .int .u64 ((b : Nat) : Int)]) Try.func5 rfl Try.ntmps5 Try.results5 rfl ?_
  have hS := St.start w0
  refine WC.seq (fun K1 hK1 => ?_)
  refine WC.region ?_
  refine WL.op rfl (opW.assignB rfl ?_)
  refine WL.nil ?_
  refine thenQ_n (hK1 _ _ ?_)
  refine WC.seq (fun K2 hK2 => ?_)
  refine WC.region ?_
  refine WL.op rfl (opW.moveI rfl ?_)
  refine WL.op rfl (opW.moveI rfl ?_)
  refine WL.op rfl (opW.call (wmul_ok _ a b ha hb) rfl ?_)
  rintro _ w ⟨rfl, hw⟩; replace hS := hS.bel hw
  refine WL.op rfl (opW.moveV (v := .tuple #[.int .u64 ((a * b / 18446744073709551616 : Nat) : Int), .int .u64 ((a * b % 18446744073709551616 : Nat) : Int)]) rfl ?_)
  refine WL.op rfl (opW.extract rfl rfl ?_)
  refine WL.op rfl (opW.extract rfl rfl ?_)
  refine WL.op rfl (opW.assignI rfl ?_)
  refine WL.op rfl (opW.assignI rfl ?_)
  refine WL.nil ?_
  refine thenQ_n (hK2 _ _ ?_)
  refine WC.seq (fun K3 hK3 => ?_)
  refine WC.region ?_
  refine WL.op rfl (opW.moveI rfl ?_)
  refine WL.op rfl (opW.moveI rfl ?_)
  refine WL.op rfl (opW.call (wmul_ok _ b a hb ha) rfl ?_)
  rintro _ w ⟨rfl, hw⟩; replace hS := hS.bel hw
  rw [Nat.mul_comm b a]
  refine WL.op rfl (opW.moveV (v := .tuple #[.int .u64 ((a * b / 18446744073709551616 : Nat) : Int), .int .u64 ((a * b % 18446744073709551616 : Nat) : Int)]) rfl ?_)
  refine WL.op rfl (opW.extract rfl rfl ?_)
  refine WL.op rfl (opW.extract rfl rfl ?_)
  refine WL.op rfl (opW.assignI rfl ?_)
  refine WL.op rfl (opW.assignI rfl ?_)
  refine WL.nil ?_
  refine thenQ_n (hK3 _ _ ?_)
  refine WC.seq (fun K4 hK4 => ?_)
  refine WC.seq (fun K5 hK5 => ?_)
  refine WC.region ?_
  refine WL.op rfl (opW.moveI rfl ?_)
  refine WL.op rfl (opW.moveI rfl ?_)
  refine WL.op rfl (opW.boolF (by simp) (opW.neq rfl rfl ⟨rfl, rfl⟩) ?_)
  refine WL.op rfl (opW.moveB rfl ?_)
  refine WL.gT 27 rfl rfl rfl (WL.op rfl (opW.moveI rfl ?_))
  refine WL.gT 27 rfl rfl rfl (WL.op rfl (opW.moveI rfl ?_))
  refine WL.gT 27 rfl rfl rfl (WL.op rfl (opW.boolF (by simp) (opW.neq rfl rfl ⟨rfl, rfl⟩) ?_))
  refine WL.op rfl (opW.pickT rfl rfl ?_)
  refine WL.op rfl (opW.moveB rfl ?_)
  refine WL.gT 32 rfl rfl rfl (WL.op rfl (opW.moveI rfl ?_))
  refine WL.gT 32 rfl rfl rfl (WL.op rfl (opW.moveI rfl ?_))
  refine WL.gT 32 rfl rfl rfl (WL.op rfl (opW.moveI rfl ?_))
  refine WL.gT 32 rfl rfl rfl (WL.op rfl (opW.mul rfl rfl (nmulM a b) ?_))
  refine WL.gT 32 rfl rfl rfl (WL.op rfl (opW.boolF (by simp) (opW.neq rfl rfl ⟨rfl, rfl⟩) ?_))
  refine WL.op rfl (opW.pickT rfl rfl ?_)
  refine WL.nil ?_
  refine thenQ_n (hK5 _ _ ?_)
  refine WC.cond _ rfl (fun hc0 => ?_) (fun hc0 => ?_)
  ·
    have hr0 := hc0
    try simp only [decide_eq_true_eq, decide_eq_false_iff_not, Bool.and_eq_true, Bool.or_eq_true, Bool.and_eq_false_iff, Bool.or_eq_false_iff, Bool.not_eq_true', Bool.not_eq_false', Int.not_lt, Int.not_le] at hc0
    simp at hr0
  ·
    have hr0 := hc0
    try simp only [decide_eq_true_eq, decide_eq_false_iff_not, Bool.and_eq_true, Bool.or_eq_true, Bool.and_eq_false_iff, Bool.or_eq_false_iff, Bool.not_eq_true', Bool.not_eq_false', Int.not_lt, Int.not_le] at hc0
    refine WC.skip ?_
    refine thenQ_n (hK4 _ _ ?_)
    refine WC.seq (fun K6 hK6 => ?_)
    refine WC.seq (fun K7 hK7 => ?_)
    refine WC.region ?_
    refine WL.op rfl (opW.moveI rfl ?_)
    refine WL.op rfl (opW.eql rfl rfl ?_)
    refine WL.nil ?_
    refine thenQ_n (hK7 _ _ ?_)
    refine WC.cond _ rfl (fun hc1 => ?_) (fun hc1 => ?_)
    ·
      have hr1 := hc1
      try simp only [decide_eq_true_eq, decide_eq_false_iff_not, Bool.and_eq_true, Bool.or_eq_true, Bool.and_eq_false_iff, Bool.or_eq_false_iff, Bool.not_eq_true', Bool.not_eq_false', Int.not_lt, Int.not_le] at hc1
      refine WC.seq (fun K8 hK8 => ?_)
      refine WC.region ?_
      refine WL.op rfl (opW.call (lives02 _) rfl ?_)
      rintro _ w ⟨rfl, hw⟩; replace hS := hS.bel hw
      refine WL.op rfl (opW.assignB rfl ?_)
      refine WL.nil ?_
      refine thenQ_n (hK8 _ _ ?_)
      refine WC.ret ?_
      refine thenQ_r ?_
      refine bodyQ_ret (.tmpB rfl .nil) ?_
      exact ⟨rfl, hS.old⟩
    ·
      have hr1 := hc1
      try simp only [decide_eq_true_eq, decide_eq_false_iff_not, Bool.and_eq_true, Bool.or_eq_true, Bool.and_eq_false_iff, Bool.or_eq_false_iff, Bool.not_eq_true', Bool.not_eq_false', Int.not_lt, Int.not_le] at hc1
      have ha1 : a + 1 < 18446744073709551616 := by omega
      refine WC.skip ?_
      refine thenQ_n (hK6 _ _ ?_)
      refine WC.seq (fun K9 hK9 => ?_)
      refine WC.region ?_
      refine WL.op rfl (opW.moveI rfl ?_)
      refine WL.op rfl (opW.add rfl rfl (nadd (b := 1) ha1) ?_)
      refine WL.op rfl (opW.moveI rfl ?_)
      refine WL.op rfl (opW.call (wmul_ok _ (a + 1) b ha1 hb) rfl ?_)
      rintro _ w ⟨rfl, hw⟩; replace hS := hS.bel hw
      refine WL.op rfl (opW.moveV (v := .tuple #[.int .u64 (((a + 1) * b / 18446744073709551616 : Nat) : Int), .int .u64 (((a + 1) * b % 18446744073709551616 : Nat) : Int)]) rfl ?_)
      refine WL.op rfl (opW.extract rfl rfl ?_)
      refine WL.op rfl (opW.extract rfl rfl ?_)
      refine WL.op rfl (opW.assignI rfl ?_)
      refine WL.op rfl (opW.assignI rfl ?_)
      refine WL.nil ?_
      refine thenQ_n (hK9 _ _ ?_)
      refine WC.seq (fun K10 hK10 => ?_)
      refine WC.region ?_
      refine WL.op rfl (opW.assignI rfl ?_)
      refine WL.nil ?_
      refine thenQ_n (hK10 _ _ ?_)
      refine WC.mid (fun f w => ∃ c : Nat, Fits [(1, .int .u64 ((b : Nat) : Int)), (5, .int .u64 ((a * b / 18446744073709551616 : Nat) : Int)), (6, .int .u64 ((a * b % 18446744073709551616 : Nat) : Int)), (9, .int .u64 (((a + 1) * b / 18446744073709551616 : Nat) : Int)), (10, .int .u64 (((a + 1) * b % 18446744073709551616 : Nat) : Int)), (11, .int .u64 ((c : Nat) : Int))] f ∧ St w0 [] w ∧ c = if 18446744073709551615 - b < a * b % 18446744073709551616 then 1 else 0) ?_ ?_
      ·
        refine WC.seq (fun K11 hK11 => ?_)
        refine WC.region ?_
        refine WL.op rfl (opW.moveI rfl ?_)
        refine WL.op rfl (opW.moveI rfl ?_)
        refine WL.op rfl (opW.sub rfl rfl (nsub (a := 18446744073709551615) (b := b) (by omega) (by decide)) ?_)
        refine WL.op rfl (opW.gtr rfl rfl ?_)
        refine WL.nil ?_
        refine thenQ_n (hK11 _ _ ?_)
        refine WC.cond _ rfl (fun hc2 => ?_) (fun hc2 => ?_)
        ·
          have hr2 := hc2
          try simp only [decide_eq_true_eq, decide_eq_false_iff_not, Bool.and_eq_true, Bool.or_eq_true, Bool.and_eq_false_iff, Bool.or_eq_false_iff, Bool.not_eq_true', Bool.not_eq_false', Int.not_lt, Int.not_le] at hc2
          refine WC.region ?_
          refine WL.op rfl (opW.assignI rfl ?_)
          refine WL.nil ?_
          refine thenQ_n ?_
          first | exact ⟨1, ⟨rfl, rfl, rfl, rfl, rfl, rfl, trivial⟩, hS, (if_pos (by omega)).symm⟩ | exact ⟨0, ⟨rfl, rfl, rfl, rfl, rfl, rfl, trivial⟩, hS, (if_neg (by omega)).symm⟩
        ·
          have hr2 := hc2
          try simp only [decide_eq_true_eq, decide_eq_false_iff_not, Bool.and_eq_true, Bool.or_eq_true, Bool.and_eq_false_iff, Bool.or_eq_false_iff, Bool.not_eq_true', Bool.not_eq_false', Int.not_lt, Int.not_le] at hc2
          refine WC.skip ?_
          refine thenQ_n ?_
          first | exact ⟨1, ⟨rfl, rfl, rfl, rfl, rfl, rfl, trivial⟩, hS, (if_pos (by omega)).symm⟩ | exact ⟨0, ⟨rfl, rfl, rfl, rfl, rfl, rfl, trivial⟩, hS, (if_neg (by omega)).symm⟩
      ·
        rintro f w ⟨c, hfit, hS, hcc⟩
        refine WC.fits _ hfit (fun g => ?_)
        clear hfit
        refine WC.seq (fun K12 hK12 => ?_)
        refine WC.region ?_
        obtain ⟨e1, e2, e3⟩ := mul_more ha1 hb hcc
        refine WL.op rfl (opW.moveI rfl ?_)
        refine WL.op rfl (opW.moveI rfl ?_)
        refine WL.op rfl (opW.moveI rfl ?_)
        refine WL.op rfl (opW.add rfl rfl (wrap_u64_add _ _) ?_)
        refine WL.op rfl (opW.boolT (by rw [e1]; simp) (opW.eql rfl rfl ⟨rfl, rfl⟩) ?_)
        refine WL.op rfl (opW.moveB rfl ?_)
        refine WL.gT 58 rfl rfl rfl (WL.op rfl (opW.moveI rfl ?_))
        refine WL.gT 58 rfl rfl rfl (WL.op rfl (opW.moveI rfl ?_))
        refine WL.gT 58 rfl rfl rfl (WL.op rfl (opW.moveI rfl ?_))
        refine WL.gT 58 rfl rfl rfl (WL.op rfl (opW.add rfl rfl (nadd e3) ?_))
        refine WL.gT 58 rfl rfl rfl (WL.op rfl (opW.boolT (by rw [e2]; simp) (opW.eql rfl rfl ⟨rfl, rfl⟩) ?_))
        refine WL.op rfl (opW.pickT rfl rfl ?_)
        refine WL.op rfl (opW.moveB rfl ?_)
        refine WL.gT 65 rfl rfl rfl (WL.op rfl (opW.call (lives02 _) rfl ?_))
        rintro _ w ⟨rfl, hw⟩; replace hS := hS.bel hw
        refine WL.op rfl (opW.pickT rfl rfl ?_)
        refine WL.op rfl (opW.assignB rfl ?_)
        refine WL.nil ?_
        refine thenQ_n (hK12 _ _ ?_)
        refine WC.ret ?_
        refine bodyQ_ret (.tmpB rfl .nil) ?_
        exact ⟨rfl, hS.old⟩

end Go.Fer
