/- lives, great -/
import Derived.Test.YtnkonnoofnhbcaaB
set_option linter.all false
namespace Go.Fer
open Go Go.Proofs Go.RowKit

theorem same_len {α : Type} {xs ys : List α} (h : xs ≠ ys ∨ True) : True := trivial
theorem take_all_eq {α : Type} {xs ys : List α} {k : Nat} (hl : xs.length = ys.length) (h : xs.take k = ys.take k) (hk : xs.length ≤ k) : xs = ys := by
  rw [List.take_of_length_le hk, List.take_of_length_le (by omega)] at h; exact h
theorem take_succ_eq {α : Type} {xs ys : List α} {k : Nat} (h : xs.take k = ys.take k) (h1 : k < xs.length) (h2 : k < ys.length) (he : xs[k] = ys[k]) : xs.take (k + 1) = ys.take (k + 1) := by
  rw [List.take_succ_eq_append_getElem h1, List.take_succ_eq_append_getElem h2, h, he]
theorem get_ne {α : Type} {xs ys : List α} {k : Nat} (h1 : k < xs.length) (h2 : k < ys.length) (he : xs[k] ≠ ys[k]) : xs ≠ ys := fun e => he (by subst e; rfl)

theorem same_r (w0 : World) (v u : Value) (xs ys : List Role) (hx : SlR w0 v xs) (hy : SlR w0 u ys) : Ret Try.prog 35 #[v, u] w0 (fun r w' => r = .bool (decide (xs = ys)) ∧ Bel w0 w') := by
  refine Ret.enter (args := [v, u]) Try.func35 rfl Try.ntmps35 Try.results35 rfl ?_
  have hS := St.start w0
  refine WC.seq (fun K1 hK1 => ?_)
  refine WC.region ?_
  refine WL.op rfl (opW.assignB rfl ?_)
  refine WL.nil ?_
  refine thenQ_n (hK1 _ _ ?_)
  refine WC.seq (fun K2 hK2 => ?_)
  refine WC.seq (fun K3 hK3 => ?_)
  refine WC.region ?_
  refine WL.op rfl (opW.moveV (v := v) rfl ?_)
  refine WL.op rfl (opW.lenV rfl ((hx.bel hS.old)) ?_)
  refine WL.op rfl (opW.moveV (v := u) rfl ?_)
  refine WL.op rfl (opW.lenV rfl ((hy.bel hS.old)) ?_)
  refine WL.op rfl (opW.neq rfl rfl ?_)
  refine WL.nil ?_
  refine thenQ_n (hK3 _ _ ?_)
  refine WC.cond _ rfl (fun hc0 => ?_) (fun hc0 => ?_)
  ·
    have hr0 := hc0
    try simp only [decide_eq_true_eq, decide_eq_false_iff_not, Bool.and_eq_true, Bool.or_eq_true, Bool.and_eq_false_iff, Bool.or_eq_false_iff, Bool.not_eq_true', Bool.not_eq_false', Int.not_lt, Int.not_le] at hc0
    refine WC.seq (fun K4 hK4 => ?_)
    refine WC.region ?_
    refine WL.op rfl (opW.assignB rfl ?_)
    refine WL.nil ?_
    refine thenQ_n (hK4 _ _ ?_)
    refine WC.ret ?_
    refine thenQ_r ?_
    refine bodyQ_ret (.tmpB rfl .nil) ?_
    refine ⟨?_, hS.old⟩
    rw [decide_eq_false (fun e => hc0 (by rw [e]))]
    rfl
  ·
    have hr0 := hc0
    try simp only [decide_eq_true_eq, decide_eq_false_iff_not, Bool.and_eq_true, Bool.or_eq_true, Bool.and_eq_false_iff, Bool.or_eq_false_iff, Bool.not_eq_true', Bool.not_eq_false', Int.not_lt, Int.not_le] at hc0
    have hlen : xs.length = ys.length := by omega
    refine WC.skip ?_
    refine thenQ_n (hK2 _ _ ?_)
    refine WC.seq (fun K5 hK5 => ?_)
    refine WC.seq (fun K6 hK6 => ?_)
    refine WC.region ?_
    refine WL.op rfl (opW.assignI rfl ?_)
    refine WL.nil ?_
    refine thenQ_n (hK6 _ _ ?_)
    refine WC.block ?_
    refine WC.loop (fun m f w => ∃ k : Nat, Fits [(0, v), (1, u), (5, .int .i64 (k : Int))] f ∧ St w0 [] w ∧ xs.take k = ys.take k ∧ m = xs.length - k) (xs.length) ?_ ?_
    ·
      exact ⟨0, ⟨rfl, rfl, rfl, trivial⟩, hS, rfl, rfl⟩
    ·
      rintro m f w ⟨k, hfit, hS, ht, hm⟩
      refine WC.fits _ hfit (fun g => ?_)
      clear hfit
      refine WC.seq (fun K7 hK7 => ?_)
      refine WC.seq (fun K8 hK8 => ?_)
      refine WC.region ?_
      refine WL.op rfl (opW.moveI rfl ?_)
      refine WL.op rfl (opW.moveV (v := v) rfl ?_)
      refine WL.op rfl (opW.lenV rfl ((hx.bel hS.old)) ?_)
      refine WL.op rfl (opW.lss rfl rfl ?_)
      refine WL.nil ?_
      refine thenQ_n (hK8 _ _ ?_)
      refine WC.cond _ rfl (fun hc1 => ?_) (fun hc1 => ?_)
      ·
        have hr1 := hc1
        try simp only [decide_eq_true_eq, decide_eq_false_iff_not, Bool.and_eq_true, Bool.or_eq_true, Bool.and_eq_false_iff, Bool.or_eq_false_iff, Bool.not_eq_true', Bool.not_eq_false', Int.not_lt, Int.not_le] at hc1
        have hk1 : k < xs.length := by omega
        have hk2 : k < ys.length := by omega
        have hle := hx.le
        simp only [maxLen] at hle
        refine WC.skip ?_
        refine thenQ_n (hK7 _ _ ?_)
        refine WC.seq (fun K9 hK9 => ?_)
        refine WC.block ?_
        refine WC.seq (fun K10 hK10 => ?_)
        refine WC.draw 9 (.look 0 (.look 1 (.look 2 (.look 3 (.look 4 (.look 5 (.look 6 (.look 7 (.look 8 .nil))))))))) (by kernel_rfl) (fun _ _ _ h => h) (fun w1 hw1 => ?_)
        replace hS := hS.bel hw1
        have hS1 := hS
        have hT := St.start w1
        refine ML.look rfl rfl rfl (fun w hw => (by have hS := hS1.bel hw; exact opW.moveV (v := v) rfl ⟨rfl, rfl⟩)) ?_
        refine ML.look rfl rfl rfl (fun w hw => (by have hS := hS1.bel hw; exact opW.moveI rfl ⟨rfl, rfl⟩)) ?_
        refine ML.look rfl rfl rfl (fun w hw => (by have hS := hS1.bel hw; exact opW.idxV rfl ((hx.bel hS.old)) rfl (by omega) ⟨rfl, rfl⟩)) ?_
        refine ML.look rfl rfl rfl (fun w hw => (by have hS := hS1.bel hw; exact opW.loadV rfl ((((hx.bel hS.old).isPt hk1).ldA (Enc.size_eq _))) ⟨rfl, rfl⟩)) ?_
        refine ML.look rfl rfl rfl (fun w hw => (by have hS := hS1.bel hw; exact opW.moveV (v := u) rfl ⟨rfl, rfl⟩)) ?_
        refine ML.look rfl rfl rfl (fun w hw => (by have hS := hS1.bel hw; exact opW.moveI rfl ⟨rfl, rfl⟩)) ?_
        refine ML.look rfl rfl rfl (fun w hw => (by have hS := hS1.bel hw; exact opW.idxV rfl ((hy.bel hS.old)) rfl (by omega) ⟨rfl, rfl⟩)) ?_
        refine ML.look rfl rfl rfl (fun w hw => (by have hS := hS1.bel hw; exact opW.loadV rfl ((((hy.bel hS.old).isPt hk2).ldA (Enc.size_eq _))) ⟨rfl, rfl⟩)) ?_
        refine ML.look rfl rfl rfl (fun w hw => (by have hS := hS1.bel hw; exact opW.neqE rfl rfl ⟨rfl, rfl⟩)) ?_
        refine ML.nil ?_
        refine thenQ_n (hK10 _ _ ?_)
        refine WC.cond _ rfl (fun hc2 => ?_) (fun hc2 => ?_)
        ·
          have hr2 := hc2
          try simp only [decide_eq_true_eq, decide_eq_false_iff_not, Bool.and_eq_true, Bool.or_eq_true, Bool.and_eq_false_iff, Bool.or_eq_false_iff, Bool.not_eq_true', Bool.not_eq_false', Int.not_lt, Int.not_le] at hc2
          refine WC.seq (fun K11 hK11 => ?_)
          refine WC.region ?_
          refine WL.op rfl (opW.assignB rfl ?_)
          refine WL.nil ?_
          refine thenQ_n (hK11 _ _ ?_)
          refine WC.ret ?_
          refine blockQ_r ?_
          refine thenQ_r ?_
          refine thenQ_r ?_
          refine blockQ_r ?_
          refine thenQ_r ?_
          refine bodyQ_ret (.tmpB rfl .nil) ?_
          refine ⟨?_, hS.old⟩
          rw [decide_eq_false (get_ne hk1 hk2 (hc2))]
          rfl
        ·
          have hr2 := hc2
          try simp only [decide_eq_true_eq, decide_eq_false_iff_not, Bool.and_eq_true, Bool.or_eq_true, Bool.and_eq_false_iff, Bool.or_eq_false_iff, Bool.not_eq_true', Bool.not_eq_false', Int.not_lt, Int.not_le] at hc2
          refine WC.skip ?_
          refine blockQ_n ?_
          refine thenQ_n (hK9 _ _ ?_)
          refine WC.region ?_
          refine WL.op rfl (opW.moveI rfl ?_)
          refine WL.op rfl (opW.add rfl rfl (wrap_i64 (by omega)) ?_)
          refine WL.op rfl (opW.assignI rfl ?_)
          refine WL.nil ?_
          refine thenQ_n ?_
          refine ⟨xs.length - (k + 1), by omega, k + 1, ⟨rfl, rfl, congrArg (Value.int .i64) (by omega), trivial⟩, hS, take_succ_eq ht hk1 hk2 (hc2), rfl⟩
      ·
        have hr1 := hc1
        try simp only [decide_eq_true_eq, decide_eq_false_iff_not, Bool.and_eq_true, Bool.or_eq_true, Bool.and_eq_false_iff, Bool.or_eq_false_iff, Bool.not_eq_true', Bool.not_eq_false', Int.not_lt, Int.not_le] at hc1
        refine WC.exit ?_
        refine thenQ_e ?_
        refine thenQ_e ?_
        refine blockQ_hit ?_
        refine thenQ_n (hK5 _ _ ?_)
        refine WC.seq (fun K12 hK12 => ?_)
        refine WC.region ?_
        refine WL.op rfl (opW.assignB rfl ?_)
        refine WL.nil ?_
        refine thenQ_n (hK12 _ _ ?_)
        refine WC.ret ?_
        refine bodyQ_ret (.tmpB rfl .nil) ?_
        refine ⟨?_, hS.old⟩
        rw [decide_eq_true (take_all_eq hlen ht (by omega))]
        rfl

theorem sameRoles_ok (w0 : World) (v u : Value) (xs ys : List Role) (hx : SlR w0 v xs) (hy : SlR w0 u ys) : Ret Try.prog 23 #[v, u] w0 (fun r w' => r = .bool (decide (xs = ys)) ∧ Bel w0 w') := by
  refine Ret.enter (args := [v, u]) Try.func23 rfl Try.ntmps23 Try.results23 rfl ?_
  have hS := St.start w0
  refine WC.seq (fun K1 hK1 => ?_)
  refine WC.region ?_
  refine WL.op rfl (opW.assignB rfl ?_)
  refine WL.nil ?_
  refine thenQ_n (hK1 _ _ ?_)
  refine WC.seq (fun K2 hK2 => ?_)
  refine WC.region ?_
  refine WL.op rfl (opW.moveV (v := v) rfl ?_)
  refine WL.op rfl (opW.moveV (v := u) rfl ?_)
  refine WL.op rfl (opW.call (same_r _ _ _ _ _ (hx.bel hS.old) (hy.bel hS.old)) rfl ?_)
  rintro _ w ⟨rfl, hw⟩; replace hS := hS.bel hw
  refine WL.op rfl (opW.assignB rfl ?_)
  refine WL.nil ?_
  refine thenQ_n (hK2 _ _ ?_)
  refine WC.ret ?_
  refine bodyQ_ret (.tmpB rfl .nil) ?_
  exact ⟨rfl, hS.old⟩

theorem great3_ok (w0 : World) (m : Message) (hm : m.ok w0) : Ret Try.prog 22 #[.agg (Enc.enc m)] w0 (fun u w' => ∃ b, u = .bool b ∧ Bel w0 w') := by
  refine Ret.enter (args := [.agg (Enc.enc m)]) Try.func22 rfl Try.ntmps22 Try.results22 rfl ?_
  have hS := St.start w0
  obtain ⟨_, ⟨keys, hkeys, _⟩, ⟨ins, hins, hinsok⟩, ⟨lks, hlks, hlksok⟩⟩ := hm
  refine WC.seq (fun K1 hK1 => ?_)
  refine WC.region ?_
  refine WL.op rfl (opW.boxA hS rfl ?_)
  intro b1 w _ hS
  refine WL.op rfl (opW.assignB rfl ?_)
  refine WL.nil ?_
  refine thenQ_n (hK1 _ _ ?_)
  refine WC.seq (fun K2 hK2 => ?_)
  refine WC.region ?_
  refine WL.op rfl (opW.fieldAddrB rfl ?_)
  refine WL.op rfl (opW.loadV rfl (hS.ld1 (by first | exact .here | exact .there (.here) | exact .there (.there (.here)) | exact .there (.there (.there (.here))) | exact .there (.there (.there (.there (.here)))) | exact .there (.there (.there (.there (.there (.here))))) | exact .there (.there (.there (.there (.there (.there (.here)))))) | exact .there (.there (.there (.there (.there (.there (.there (.here))))))) | exact .there (.there (.there (.there (.there (.there (.there (.there (.here)))))))) | exact .there (.there (.there (.there (.there (.there (.there (.there (.there (.here))))))))) | exact .there (.there (.there (.there (.there (.there (.there (.there (.there (.there (.here)))))))))) | exact .there (.there (.there (.there (.there (.there (.there (.there (.there (.there (.there (.here))))))))))) | exact .there (.there (.there (.there (.there (.there (.there (.there (.there (.there (.there (.there (.here))))))))))))) (Message.at_keys m)) ?_)
  refine WL.op rfl (opW.lenV rfl ((hkeys.bel hS.old)) ?_)
  refine WL.op rfl (opW.fieldAddrB rfl ?_)
  refine WL.op rfl (opW.loadV rfl (hS.ld1 (by first | exact .here | exact .there (.here) | exact .there (.there (.here)) | exact .there (.there (.there (.here))) | exact .there (.there (.there (.there (.here)))) | exact .there (.there (.there (.there (.there (.here))))) | exact .there (.there (.there (.there (.there (.there (.here)))))) | exact .there (.there (.there (.there (.there (.there (.there (.here))))))) | exact .there (.there (.there (.there (.there (.there (.there (.there (.here)))))))) | exact .there (.there (.there (.there (.there (.there (.there (.there (.there (.here))))))))) | exact .there (.there (.there (.there (.there (.there (.there (.there (.there (.there (.here)))))))))) | exact .there (.there (.there (.there (.there (.there (.there (.there (.there (.there (.there (.here))))))))))) | exact .there (.there (.there (.there (.there (.there (.there (.there (.there (.there (.there (.there (.here))))))))))))) (Message.at_instrs m)) ?_)
  refine WL.op rfl (opW.lenV rfl ((hins.bel hS.old)) ?_)
  refine WL.op rfl (opW.add rfl rfl (rfl) ?_)
  refine WL.op rfl (opW.fieldAddrB rfl ?_)
  refine WL.op rfl (opW.loadV rfl (hS.ld1 (by first | exact .here | exact .there (.here) | exact .there (.there (.here)) | exact .there (.there (.there (.here))) | exact .there (.there (.there (.there (.here)))) | exact .there (.there (.there (.there (.there (.here))))) | exact .there (.there (.there (.there (.there (.there (.here)))))) | exact .there (.there (.there (.there (.there (.there (.there (.here))))))) | exact .there (.there (.there (.there (.there (.there (.there (.there (.here)))))))) | exact .there (.there (.there (.there (.there (.there (.there (.there (.there (.here))))))))) | exact .there (.there (.there (.there (.there (.there (.there (.there (.there (.there (.here)))))))))) | exact .there (.there (.there (.there (.there (.there (.there (.there (.there (.there (.there (.here))))))))))) | exact .there (.there (.there (.there (.there (.there (.there (.there (.there (.there (.there (.there (.here))))))))))))) (Message.at_lookups m)) ?_)
  refine WL.op rfl (opW.lenV rfl ((hlks.bel hS.old)) ?_)
  refine WL.op rfl (opW.add rfl rfl (rfl) ?_)
  refine WL.op rfl (opW.assignI rfl ?_)
  refine WL.nil ?_
  refine thenQ_n (hK2 _ _ ?_)
  refine WC.seq (fun K3 hK3 => ?_)
  refine WC.seq (fun K4 hK4 => ?_)
  refine WC.region ?_
  refine WL.op rfl (opW.assignI rfl ?_)
  refine WL.nil ?_
  refine thenQ_n (hK4 _ _ ?_)
  refine WC.block ?_
  refine WC.loop (fun q f w => ∃ (k : Nat) (n : Int), Fits [(1, .pointer (some ⟨b1, 0, none⟩)), (3, .int .i64 n), (4, .int .i64 (k : Int))] f ∧ St w0 [blkE b1 (Enc.enc m) 30] w ∧ k ≤ ins.length ∧ q = ins.length - k) (ins.length) ?_ ?_
  ·
    exact ⟨0, _, ⟨rfl, rfl, rfl, trivial⟩, hS, Nat.zero_le _, rfl⟩
  ·
    rintro q f w ⟨k, n, hfit, hS, hk0, hm⟩
    refine WC.fits _ hfit (fun g => ?_)
    clear hfit
    refine WC.seq (fun K5 hK5 => ?_)
    refine WC.seq (fun K6 hK6 => ?_)
    refine WC.region ?_
    refine WL.op rfl (opW.moveI rfl ?_)
    refine WL.op rfl (opW.fieldAddrB rfl ?_)
    refine WL.op rfl (opW.loadV rfl (hS.ld1 (by first | exact .here | exact .there (.here) | exact .there (.there (.here)) | exact .there (.there (.there (.here))) | exact .there (.there (.there (.there (.here)))) | exact .there (.there (.there (.there (.there (.here))))) | exact .there (.there (.there (.there (.there (.there (.here)))))) | exact .there (.there (.there (.there (.there (.there (.there (.here))))))) | exact .there (.there (.there (.there (.there (.there (.there (.there (.here)))))))) | exact .there (.there (.there (.there (.there (.there (.there (.there (.there (.here))))))))) | exact .there (.there (.there (.there (.there (.there (.there (.there (.there (.there (.here)))))))))) | exact .there (.there (.there (.there (.there (.there (.there (.there (.there (.there (.there (.here))))))))))) | exact .there (.there (.there (.there (.there (.there (.there (.there (.there (.there (.there (.there (.here))))))))))))) (Message.at_instrs m)) ?_)
    refine WL.op rfl (opW.lenV rfl ((hins.bel hS.old)) ?_)
    refine WL.op rfl (opW.lss rfl rfl ?_)
    refine WL.op rfl (opW.moveB rfl ?_)
    refine WL.gd _ 22 _ rfl rfl rfl rfl (fun hg23 => opW.moveI rfl ⟨rfl, Bel.refl _⟩) (fun w hw => ?_)
    replace hS := hS.bel hw
    refine WL.gd _ 22 _ rfl rfl rfl rfl (fun hg24 => opW.lss (by first | exact gv_of rfl hg24 | rfl) rfl ⟨rfl, Bel.refl _⟩) (fun w hw => ?_)
    replace hS := hS.bel hw
    refine WL.op rfl (opW.pickAnd rfl (by first | rfl) rfl ?_)
    refine WL.nil ?_
    refine thenQ_n (hK6 _ _ ?_)
    refine WC.cond _ rfl (fun hc0 => ?_) (fun hc0 => ?_)
    ·
      have hr0 := hc0
      try simp only [decide_eq_true_eq, decide_eq_false_iff_not, Bool.and_eq_true, Bool.or_eq_true, Bool.and_eq_false_iff, Bool.or_eq_false_iff, Bool.not_eq_true', Bool.not_eq_false', Int.not_lt, Int.not_le] at hc0
      have hkl : k < ins.length := by omega
      obtain ⟨⟨la, hla, _⟩, ⟨ld, hld, _⟩⟩ := hinsok ins[k] (List.getElem_mem hkl)
      have hmx := hins.le
      simp only [maxLen] at hmx
      refine WC.skip ?_
      refine thenQ_n (hK5 _ _ ?_)
      refine WC.seq (fun K7 hK7 => ?_)
      refine WC.block ?_
      refine WC.draw 18 (.look 0 (.look 1 (.look 2 (.look 3 (.look 4 (.look 5 (.look 6 (.look 7 (.look 8 (.look 9 (.look 10 (.look 11 (.look 12 (.look 13 (.look 14 (.look 15 (.look 16 (.look 17 .nil)))))))))))))))))) (by kernel_rfl) (fun _ _ _ h => h) (fun w1 hw1 => ?_)
      replace hS := hS.bel hw1
      have hS1 := hS
      have hT := St.start w1
      refine ML.look rfl rfl rfl (fun w hw => (by have hS := hS1.bel hw; exact opW.moveI rfl ⟨rfl, rfl⟩)) ?_
      refine ML.look rfl rfl rfl (fun w hw => (by have hS := hS1.bel hw; exact opW.fieldAddrB rfl ⟨rfl, rfl⟩)) ?_
      refine ML.look rfl rfl rfl (fun w hw => (by have hS := hS1.bel hw; exact opW.loadV rfl (hS.ld1 (by first | exact .here | exact .there (.here) | exact .there (.there (.here)) | exact .there (.there (.there (.here))) | exact .there (.there (.there (.there (.here)))) | exact .there (.there (.there (.there (.there (.here))))) | exact .there (.there (.there (.there (.there (.there (.here)))))) | exact .there (.there (.there (.there (.there (.there (.there (.here))))))) | exact .there (.there (.there (.there (.there (.there (.there (.there (.here)))))))) | exact .there (.there (.there (.there (.there (.there (.there (.there (.there (.here))))))))) | exact .there (.there (.there (.there (.there (.there (.there (.there (.there (.there (.here)))))))))) | exact .there (.there (.there (.there (.there (.there (.there (.there (.there (.there (.there (.here))))))))))) | exact .there (.there (.there (.there (.there (.there (.there (.there (.there (.there (.there (.there (.here))))))))))))) (Message.at_instrs m)) ⟨rfl, rfl⟩)) ?_
      refine ML.look rfl rfl rfl (fun w hw => (by have hS := hS1.bel hw; exact opW.moveI rfl ⟨rfl, rfl⟩)) ?_
      refine ML.look rfl rfl rfl (fun w hw => (by have hS := hS1.bel hw; exact opW.idxV rfl ((hins.bel hS.old)) rfl (by omega) ⟨rfl, rfl⟩)) ?_
      refine ML.look rfl rfl rfl (fun w hw => (by have hS := hS1.bel hw; exact opW.fieldAddr rfl ((hins.bel hS.old).isP hkl) ⟨rfl, rfl⟩)) ?_
      refine ML.look rfl rfl rfl (fun w hw => (by have hS := hS1.bel hw; exact opW.loadV rfl (Ld.pt1 ((hins.bel hS.old).isPt hkl) 1 (Instr.at_accounts _)) ⟨rfl, rfl⟩)) ?_
      refine ML.look rfl rfl rfl (fun w hw => (by have hS := hS1.bel hw; exact opW.lenV rfl ((hla.bel hS.old)) ⟨rfl, rfl⟩)) ?_
      refine ML.look rfl rfl rfl (fun w hw => (by have hS := hS1.bel hw; exact opW.add rfl rfl (rfl) ⟨rfl, rfl⟩)) ?_
      refine ML.look rfl rfl rfl (fun w hw => (by have hS := hS1.bel hw; exact opW.fieldAddrB rfl ⟨rfl, rfl⟩)) ?_
      refine ML.look rfl rfl rfl (fun w hw => (by have hS := hS1.bel hw; exact opW.loadV rfl (hS.ld1 (by first | exact .here | exact .there (.here) | exact .there (.there (.here)) | exact .there (.there (.there (.here))) | exact .there (.there (.there (.there (.here)))) | exact .there (.there (.there (.there (.there (.here))))) | exact .there (.there (.there (.there (.there (.there (.here)))))) | exact .there (.there (.there (.there (.there (.there (.there (.here))))))) | exact .there (.there (.there (.there (.there (.there (.there (.there (.here)))))))) | exact .there (.there (.there (.there (.there (.there (.there (.there (.there (.here))))))))) | exact .there (.there (.there (.there (.there (.there (.there (.there (.there (.there (.here)))))))))) | exact .there (.there (.there (.there (.there (.there (.there (.there (.there (.there (.there (.here))))))))))) | exact .there (.there (.there (.there (.there (.there (.there (.there (.there (.there (.there (.there (.here))))))))))))) (Message.at_instrs m)) ⟨rfl, rfl⟩)) ?_
      refine ML.look rfl rfl rfl (fun w hw => (by have hS := hS1.bel hw; exact opW.moveI rfl ⟨rfl, rfl⟩)) ?_
      refine ML.look rfl rfl rfl (fun w hw => (by have hS := hS1.bel hw; exact opW.idxV rfl ((hins.bel hS.old)) rfl (by omega) ⟨rfl, rfl⟩)) ?_
      refine ML.look rfl rfl rfl (fun w hw => (by have hS := hS1.bel hw; exact opW.fieldAddr rfl ((hins.bel hS.old).isP hkl) ⟨rfl, rfl⟩)) ?_
      refine ML.look rfl rfl rfl (fun w hw => (by have hS := hS1.bel hw; exact opW.loadV rfl (Ld.pt1 ((hins.bel hS.old).isPt hkl) 2 (Instr.at_data _)) ⟨rfl, rfl⟩)) ?_
      refine ML.look rfl rfl rfl (fun w hw => (by have hS := hS1.bel hw; exact opW.lenV rfl ((hld.bel hS.old)) ⟨rfl, rfl⟩)) ?_
      refine ML.look rfl rfl rfl (fun w hw => (by have hS := hS1.bel hw; exact opW.add rfl rfl (rfl) ⟨rfl, rfl⟩)) ?_
      refine ML.look rfl rfl rfl (fun w hw => (by have hS := hS1.bel hw; exact opW.assignI rfl ⟨rfl, rfl⟩)) ?_
      refine ML.nil ?_
      refine blockQ_n ?_
      refine thenQ_n (hK7 _ _ ?_)
      refine WC.region ?_
      refine WL.op rfl (opW.moveI rfl ?_)
      refine WL.op rfl (opW.add rfl rfl (wrap_i64 (by omega)) ?_)
      refine WL.op rfl (opW.assignI rfl ?_)
      refine WL.nil ?_
      refine thenQ_n ?_
      exact ⟨ins.length - (k + 1), by omega, k + 1, _, ⟨rfl, rfl, congrArg (Value.int .i64) (by omega), trivial⟩, hS, by omega, rfl⟩
    ·
      have hr0 := hc0
      try simp only [decide_eq_true_eq, decide_eq_false_iff_not, Bool.and_eq_true, Bool.or_eq_true, Bool.and_eq_false_iff, Bool.or_eq_false_iff, Bool.not_eq_true', Bool.not_eq_false', Int.not_lt, Int.not_le] at hc0
      refine WC.exit ?_
      refine thenQ_e ?_
      refine thenQ_e ?_
      refine blockQ_hit ?_
      refine thenQ_n (hK3 _ _ ?_)
      refine WC.seq (fun K8 hK8 => ?_)
      refine WC.seq (fun K9 hK9 => ?_)
      refine WC.region ?_
      refine WL.op rfl (opW.assignI rfl ?_)
      refine WL.nil ?_
      refine thenQ_n (hK9 _ _ ?_)
      refine WC.block ?_
      refine WC.loop (fun q f w => ∃ (k : Nat) (n : Int), Fits [(1, .pointer (some ⟨b1, 0, none⟩)), (3, .int .i64 n), (5, .int .i64 (k : Int))] f ∧ St w0 [blkE b1 (Enc.enc m) 30] w ∧ k ≤ lks.length ∧ q = lks.length - k) (lks.length) ?_ ?_
      ·
        exact ⟨0, _, ⟨rfl, rfl, rfl, trivial⟩, hS, Nat.zero_le _, rfl⟩
      ·
        rintro q f w ⟨k, n, hfit, hS, hk0, hm⟩
        refine WC.fits _ hfit (fun g => ?_)
        clear hfit
        refine WC.seq (fun K10 hK10 => ?_)
        refine WC.seq (fun K11 hK11 => ?_)
        refine WC.region ?_
        refine WL.op rfl (opW.moveI rfl ?_)
        refine WL.op rfl (opW.fieldAddrB rfl ?_)
        refine WL.op rfl (opW.loadV rfl (hS.ld1 (by first | exact .here | exact .there (.here) | exact .there (.there (.here)) | exact .there (.there (.there (.here))) | exact .there (.there (.there (.there (.here)))) | exact .there (.there (.there (.there (.there (.here))))) | exact .there (.there (.there (.there (.there (.there (.here)))))) | exact .there (.there (.there (.there (.there (.there (.there (.here))))))) | exact .there (.there (.there (.there (.there (.there (.there (.there (.here)))))))) | exact .there (.there (.there (.there (.there (.there (.there (.there (.there (.here))))))))) | exact .there (.there (.there (.there (.there (.there (.there (.there (.there (.there (.here)))))))))) | exact .there (.there (.there (.there (.there (.there (.there (.there (.there (.there (.there (.here))))))))))) | exact .there (.there (.there (.there (.there (.there (.there (.there (.there (.there (.there (.there (.here))))))))))))) (Message.at_lookups m)) ?_)
        refine WL.op rfl (opW.lenV rfl ((hlks.bel hS.old)) ?_)
        refine WL.op rfl (opW.lss rfl rfl ?_)
        refine WL.op rfl (opW.moveB rfl ?_)
        refine WL.gd _ 50 _ rfl rfl rfl rfl (fun hg51 => opW.moveI rfl ⟨rfl, Bel.refl _⟩) (fun w hw => ?_)
        replace hS := hS.bel hw
        refine WL.gd _ 50 _ rfl rfl rfl rfl (fun hg52 => opW.lss (by first | exact gv_of rfl hg52 | rfl) rfl ⟨rfl, Bel.refl _⟩) (fun w hw => ?_)
        replace hS := hS.bel hw
        refine WL.op rfl (opW.pickAnd rfl (by first | rfl) rfl ?_)
        refine WL.nil ?_
        refine thenQ_n (hK11 _ _ ?_)
        refine WC.cond _ rfl (fun hc1 => ?_) (fun hc1 => ?_)
        ·
          have hr1 := hc1
          try simp only [decide_eq_true_eq, decide_eq_false_iff_not, Bool.and_eq_true, Bool.or_eq_true, Bool.and_eq_false_iff, Bool.or_eq_false_iff, Bool.not_eq_true', Bool.not_eq_false', Int.not_lt, Int.not_le] at hc1
          have hkl : k < lks.length := by omega
          obtain ⟨⟨la, hla, _⟩, ⟨ld, hld, _⟩⟩ := hlksok lks[k] (List.getElem_mem hkl)
          have hmx := hlks.le
          simp only [maxLen] at hmx
          refine WC.skip ?_
          refine thenQ_n (hK10 _ _ ?_)
          refine WC.seq (fun K12 hK12 => ?_)
          refine WC.block ?_
          refine WC.draw 18 (.look 0 (.look 1 (.look 2 (.look 3 (.look 4 (.look 5 (.look 6 (.look 7 (.look 8 (.look 9 (.look 10 (.look 11 (.look 12 (.look 13 (.look 14 (.look 15 (.look 16 (.look 17 .nil)))))))))))))))))) (by kernel_rfl) (fun _ _ _ h => h) (fun w1 hw1 => ?_)
          replace hS := hS.bel hw1
          have hS1 := hS
          have hT := St.start w1
          refine ML.look rfl rfl rfl (fun w hw => (by have hS := hS1.bel hw; exact opW.moveI rfl ⟨rfl, rfl⟩)) ?_
          refine ML.look rfl rfl rfl (fun w hw => (by have hS := hS1.bel hw; exact opW.fieldAddrB rfl ⟨rfl, rfl⟩)) ?_
          refine ML.look rfl rfl rfl (fun w hw => (by have hS := hS1.bel hw; exact opW.loadV rfl (hS.ld1 (by first | exact .here | exact .there (.here) | exact .there (.there (.here)) | exact .there (.there (.there (.here))) | exact .there (.there (.there (.there (.here)))) | exact .there (.there (.there (.there (.there (.here))))) | exact .there (.there (.there (.there (.there (.there (.here)))))) | exact .there (.there (.there (.there (.there (.there (.there (.here))))))) | exact .there (.there (.there (.there (.there (.there (.there (.there (.here)))))))) | exact .there (.there (.there (.there (.there (.there (.there (.there (.there (.here))))))))) | exact .there (.there (.there (.there (.there (.there (.there (.there (.there (.there (.here)))))))))) | exact .there (.there (.there (.there (.there (.there (.there (.there (.there (.there (.there (.here))))))))))) | exact .there (.there (.there (.there (.there (.there (.there (.there (.there (.there (.there (.there (.here))))))))))))) (Message.at_lookups m)) ⟨rfl, rfl⟩)) ?_
          refine ML.look rfl rfl rfl (fun w hw => (by have hS := hS1.bel hw; exact opW.moveI rfl ⟨rfl, rfl⟩)) ?_
          refine ML.look rfl rfl rfl (fun w hw => (by have hS := hS1.bel hw; exact opW.idxV rfl ((hlks.bel hS.old)) rfl (by omega) ⟨rfl, rfl⟩)) ?_
          refine ML.look rfl rfl rfl (fun w hw => (by have hS := hS1.bel hw; exact opW.fieldAddr rfl ((hlks.bel hS.old).isP hkl) ⟨rfl, rfl⟩)) ?_
          refine ML.look rfl rfl rfl (fun w hw => (by have hS := hS1.bel hw; exact opW.loadV rfl (Ld.pt1 ((hlks.bel hS.old).isPt hkl) 32 (Lookup.at_writes _)) ⟨rfl, rfl⟩)) ?_
          refine ML.look rfl rfl rfl (fun w hw => (by have hS := hS1.bel hw; exact opW.lenV rfl ((hla.bel hS.old)) ⟨rfl, rfl⟩)) ?_
          refine ML.look rfl rfl rfl (fun w hw => (by have hS := hS1.bel hw; exact opW.add rfl rfl (rfl) ⟨rfl, rfl⟩)) ?_
          refine ML.look rfl rfl rfl (fun w hw => (by have hS := hS1.bel hw; exact opW.fieldAddrB rfl ⟨rfl, rfl⟩)) ?_
          refine ML.look rfl rfl rfl (fun w hw => (by have hS := hS1.bel hw; exact opW.loadV rfl (hS.ld1 (by first | exact .here | exact .there (.here) | exact .there (.there (.here)) | exact .there (.there (.there (.here))) | exact .there (.there (.there (.there (.here)))) | exact .there (.there (.there (.there (.there (.here))))) | exact .there (.there (.there (.there (.there (.there (.here)))))) | exact .there (.there (.there (.there (.there (.there (.there (.here))))))) | exact .there (.there (.there (.there (.there (.there (.there (.there (.here)))))))) | exact .there (.there (.there (.there (.there (.there (.there (.there (.there (.here))))))))) | exact .there (.there (.there (.there (.there (.there (.there (.there (.there (.there (.here)))))))))) | exact .there (.there (.there (.there (.there (.there (.there (.there (.there (.there (.there (.here))))))))))) | exact .there (.there (.there (.there (.there (.there (.there (.there (.there (.there (.there (.there (.here))))))))))))) (Message.at_lookups m)) ⟨rfl, rfl⟩)) ?_
          refine ML.look rfl rfl rfl (fun w hw => (by have hS := hS1.bel hw; exact opW.moveI rfl ⟨rfl, rfl⟩)) ?_
          refine ML.look rfl rfl rfl (fun w hw => (by have hS := hS1.bel hw; exact opW.idxV rfl ((hlks.bel hS.old)) rfl (by omega) ⟨rfl, rfl⟩)) ?_
          refine ML.look rfl rfl rfl (fun w hw => (by have hS := hS1.bel hw; exact opW.fieldAddr rfl ((hlks.bel hS.old).isP hkl) ⟨rfl, rfl⟩)) ?_
          refine ML.look rfl rfl rfl (fun w hw => (by have hS := hS1.bel hw; exact opW.loadV rfl (Ld.pt1 ((hlks.bel hS.old).isPt hkl) 33 (Lookup.at_reads _)) ⟨rfl, rfl⟩)) ?_
          refine ML.look rfl rfl rfl (fun w hw => (by have hS := hS1.bel hw; exact opW.lenV rfl ((hld.bel hS.old)) ⟨rfl, rfl⟩)) ?_
          refine ML.look rfl rfl rfl (fun w hw => (by have hS := hS1.bel hw; exact opW.add rfl rfl (rfl) ⟨rfl, rfl⟩)) ?_
          refine ML.look rfl rfl rfl (fun w hw => (by have hS := hS1.bel hw; exact opW.assignI rfl ⟨rfl, rfl⟩)) ?_
          refine ML.nil ?_
          refine blockQ_n ?_
          refine thenQ_n (hK12 _ _ ?_)
          refine WC.region ?_
          refine WL.op rfl (opW.moveI rfl ?_)
          refine WL.op rfl (opW.add rfl rfl (wrap_i64 (by omega)) ?_)
          refine WL.op rfl (opW.assignI rfl ?_)
          refine WL.nil ?_
          refine thenQ_n ?_
          exact ⟨lks.length - (k + 1), by omega, k + 1, _, ⟨rfl, rfl, congrArg (Value.int .i64) (by omega), trivial⟩, hS, by omega, rfl⟩
        ·
          have hr1 := hc1
          try simp only [decide_eq_true_eq, decide_eq_false_iff_not, Bool.and_eq_true, Bool.or_eq_true, Bool.and_eq_false_iff, Bool.or_eq_false_iff, Bool.not_eq_true', Bool.not_eq_false', Int.not_lt, Int.not_le] at hc1
          refine WC.exit ?_
          refine thenQ_e ?_
          refine thenQ_e ?_
          refine blockQ_hit ?_
          refine thenQ_n (hK8 _ _ ?_)
          refine WC.seq (fun K13 hK13 => ?_)
          refine WC.region ?_
          refine WL.op rfl (opW.moveI rfl ?_)
          refine WL.op rfl (opW.geq rfl rfl ?_)
          refine WL.op rfl (opW.assignB rfl ?_)
          refine WL.nil ?_
          refine thenQ_n (hK13 _ _ ?_)
          refine WC.ret ?_
          refine bodyQ_ret (.tmpB rfl .nil) ?_
          exact ⟨_, rfl, hS.old⟩

theorem great7_ok (w0 : World) (m : Message) (v1 v2 : Value) (keys ws rs : List Key) (hm : m.ok w0) (hk : SlR w0 m.keys.v keys) (hws : SlR w0 v1 ws) (hrs : SlR w0 v2 rs) : Ret Try.prog 7 #[.agg (Enc.enc m), v1, v2] w0 (fun u w' => ∃ b, u = .bool b ∧ (b = false → keys.length ≤ 300 ∧ ws.length ≤ 300 ∧ rs.length ≤ 300) ∧ Bel w0 w') := by
  refine Ret.enter (args := [.agg (Enc.enc m), v1, v2]) Try.func7 rfl Try.ntmps7 Try.results7 rfl ?_
  have hS := St.start w0
  refine WC.seq (fun K1 hK1 => ?_)
  refine WC.region ?_
  refine WL.op rfl (opW.boxA hS rfl ?_)
  intro b3 w _ hS
  refine WL.op rfl (opW.assignB rfl ?_)
  refine WL.nil ?_
  refine thenQ_n (hK1 _ _ ?_)
  refine WC.seq (fun K2 hK2 => ?_)
  refine WC.region ?_
  have hm0 := hm.bel hS.old
  refine WL.op rfl (opW.loadV rfl (hS.ldA (cs := Enc.enc m) (by first | exact .here | exact .there (.here) | exact .there (.there (.here)) | exact .there (.there (.there (.here))) | exact .there (.there (.there (.there (.here)))) | exact .there (.there (.there (.there (.there (.here))))) | exact .there (.there (.there (.there (.there (.there (.here)))))) | exact .there (.there (.there (.there (.there (.there (.there (.here))))))) | exact .there (.there (.there (.there (.there (.there (.there (.there (.here)))))))) | exact .there (.there (.there (.there (.there (.there (.there (.there (.there (.here))))))))) | exact .there (.there (.there (.there (.there (.there (.there (.there (.there (.there (.here)))))))))) | exact .there (.there (.there (.there (.there (.there (.there (.there (.there (.there (.there (.here))))))))))) | exact .there (.there (.there (.there (.there (.there (.there (.there (.there (.there (.there (.there (.here))))))))))))) (Enc.size_eq m)) ?_)
  refine WL.op rfl (opW.call (great3_ok _ m hm0) rfl ?_)
  rintro _ w ⟨bb, rfl, hw⟩; replace hS := hS.bel hw
  refine WL.op rfl (opW.moveB rfl ?_)
  refine WL.gd _ 9 _ rfl rfl rfl rfl (fun hg10 => opW.fieldAddrB rfl ⟨rfl, Bel.refl _⟩) (fun w hw => ?_)
  replace hS := hS.bel hw
  refine WL.gd _ 9 _ rfl rfl rfl rfl (fun hg11 => opW.loadV (by first | exact gv_of rfl hg11 | rfl) (hS.ld1 (by first | exact .here | exact .there (.here) | exact .there (.there (.here)) | exact .there (.there (.there (.here))) | exact .there (.there (.there (.there (.here)))) | exact .there (.there (.there (.there (.there (.here))))) | exact .there (.there (.there (.there (.there (.there (.here)))))) | exact .there (.there (.there (.there (.there (.there (.there (.here))))))) | exact .there (.there (.there (.there (.there (.there (.there (.there (.here)))))))) | exact .there (.there (.there (.there (.there (.there (.there (.there (.there (.here))))))))) | exact .there (.there (.there (.there (.there (.there (.there (.there (.there (.there (.here)))))))))) | exact .there (.there (.there (.there (.there (.there (.there (.there (.there (.there (.there (.here))))))))))) | exact .there (.there (.there (.there (.there (.there (.there (.there (.there (.there (.there (.there (.here))))))))))))) (Message.at_keys m)) ⟨rfl, Bel.refl _⟩) (fun w hw => ?_)
  replace hS := hS.bel hw
  refine WL.gd _ 9 _ rfl rfl rfl rfl (fun hg12 => opW.lenV (by first | exact gv_of rfl hg12 | rfl) ((hk.bel hS.old)) ⟨rfl, Bel.refl _⟩) (fun w hw => ?_)
  replace hS := hS.bel hw
  refine WL.gd _ 9 _ rfl rfl rfl rfl (fun hg13 => opW.gtr (by first | exact gv_of rfl hg13 | rfl) rfl ⟨rfl, Bel.refl _⟩) (fun w hw => ?_)
  replace hS := hS.bel hw
  refine WL.op rfl (opW.pickOr rfl rfl (by first | rfl) ?_)
  refine WL.op rfl (opW.moveB rfl ?_)
  refine WL.gd _ 15 _ rfl rfl rfl rfl (fun hg16 => opW.moveV (v := v1) rfl ⟨rfl, Bel.refl _⟩) (fun w hw => ?_)
  replace hS := hS.bel hw
  refine WL.gd _ 15 _ rfl rfl rfl rfl (fun hg17 => opW.lenV (by first | exact gv_of rfl hg17 | rfl) ((hws.bel hS.old)) ⟨rfl, Bel.refl _⟩) (fun w hw => ?_)
  replace hS := hS.bel hw
  refine WL.gd _ 15 _ rfl rfl rfl rfl (fun hg18 => opW.gtr (by first | exact gv_of rfl hg18 | rfl) rfl ⟨rfl, Bel.refl _⟩) (fun w hw => ?_)
  replace hS := hS.bel hw
  refine WL.op rfl (opW.pickOr rfl rfl (by first | rfl) ?_)
  refine WL.op rfl (opW.moveB rfl ?_)
  refine WL.gd _ 20 _ rfl rfl rfl rfl (fun hg21 => opW.moveV (v := v2) rfl ⟨rfl, Bel.refl _⟩) (fun w hw => ?_)
  replace hS := hS.bel hw
  refine WL.gd _ 20 _ rfl rfl rfl rfl (fun hg22 => opW.lenV (by first | exact gv_of rfl hg22 | rfl) ((hrs.bel hS.old)) ⟨rfl, Bel.refl _⟩) (fun w hw => ?_)
  replace hS := hS.bel hw
  refine WL.gd _ 20 _ rfl rfl rfl rfl (fun hg23 => opW.gtr (by first | exact gv_of rfl hg23 | rfl) rfl ⟨rfl, Bel.refl _⟩) (fun w hw => ?_)
  replace hS := hS.bel hw
  refine WL.op rfl (opW.pickOr rfl rfl (by first | rfl) ?_)
  refine WL.op rfl (opW.assignB rfl ?_)
  refine WL.nil ?_
  refine thenQ_n (hK2 _ _ ?_)
  refine WC.ret ?_
  refine bodyQ_ret (.tmpB rfl .nil) ?_
  refine ⟨_, rfl, ?_, hS.old⟩
  intro hb
  simp only [Bool.or_eq_false_iff, decide_eq_false_iff_not] at hb
  omega

theorem lives7_nd : ((allL (⟨false, ⟨2, 1, 1⟩, ⟨none, 0, 0⟩, vz 32, ⟨none, 0, 0⟩, ⟨none, 0, 0⟩⟩ : Message) ([((vz 32).set 0 1), ((vz 32).set 0 2), ((vz 32).set 0 4), (vz 32)] : List Key) [] []).map Role.key).Nodup := by decide +kernel
theorem lives7_eq : (allL (⟨false, ⟨2, 1, 1⟩, ⟨none, 0, 0⟩, vz 32, ⟨none, 0, 0⟩, ⟨none, 0, 0⟩⟩ : Message) ([((vz 32).set 0 1), ((vz 32).set 0 2), ((vz 32).set 0 4), (vz 32)] : List Key) [] []).map fixR = ([⟨((vz 32).set 0 1), true, true⟩, ⟨((vz 32).set 0 2), true, false⟩, ⟨((vz 32).set 0 4), false, true⟩, ⟨(vz 32), false, false⟩] : List Role) := by decide +kernel

theorem lives7 (w0 : World) : Ret Try.prog 8 #[] w0 (fun r w' => r = .bool true ∧ Bel w0 w') := by
  refine Ret.enter (args := []) Try.func8 rfl Try.ntmps8 Try.results8 rfl ?_
  have hS := St.start w0
  refine WC.seq (fun K1 hK1 => ?_)
  refine WC.region ?_
  refine WL.op rfl (opW.assignB rfl ?_)
  refine WL.nil ?_
  refine thenQ_n (hK1 _ _ ?_)
  refine WC.seq (fun K2 hK2 => ?_)
  refine WC.region ?_
  refine WL.op rfl (opW.buildE (r := (⟨2, 1, 1⟩ : Header)) (ps := Header.parts (⟨2, 1, 1⟩ : Header)) (Header.enc_eq _) (by first | rfl | (simp only [sysK, budK, enc_vset, enc_vz, Header.enc_eq, Header.parts, Role.enc_eq, Role.parts, Instr.enc_eq, Instr.parts, Lookup.enc_eq, Lookup.parts, Message.enc_eq, Message.parts]; rfl)) (by (repeat' (first | exact trivial | refine And.intro ?_ ?_)) <;> first | rfl | exact Enc.size_eq _ | (simp; done)) ?_)
  refine WL.op rfl (opW.buildVec (k := ((vz 32).set 0 1)) (by first | rfl | (simp only [sysK, budK, enc_vset, enc_vz]; rfl)) (by intro p hp; first | (exfalso; simp at hp; done) | (simp only [List.map_cons, List.map_nil, List.mem_cons, List.not_mem_nil, or_false] at hp; rcases hp with rfl | rfl | rfl | rfl <;> exact ⟨by simp, rfl⟩)) ?_)
  refine WL.op rfl (opW.buildVec (k := ((vz 32).set 0 2)) (by first | rfl | (simp only [sysK, budK, enc_vset, enc_vz]; rfl)) (by intro p hp; first | (exfalso; simp at hp; done) | (simp only [List.map_cons, List.map_nil, List.mem_cons, List.not_mem_nil, or_false] at hp; rcases hp with rfl | rfl | rfl | rfl <;> exact ⟨by simp, rfl⟩)) ?_)
  refine WL.op rfl (opW.buildVec (k := ((vz 32).set 0 4)) (by first | rfl | (simp only [sysK, budK, enc_vset, enc_vz]; rfl)) (by intro p hp; first | (exfalso; simp at hp; done) | (simp only [List.map_cons, List.map_nil, List.mem_cons, List.not_mem_nil, or_false] at hp; rcases hp with rfl | rfl | rfl | rfl <;> exact ⟨by simp, rfl⟩)) ?_)
  refine WL.op rfl (opW.buildVec (k := (vz 32)) (by first | rfl | (simp only [sysK, budK, enc_vset, enc_vz]; rfl)) (by intro p hp; first | (exfalso; simp at hp; done) | (simp only [List.map_cons, List.map_nil, List.mem_cons, List.not_mem_nil, or_false] at hp; rcases hp with rfl | rfl | rfl | rfl <;> exact ⟨by simp, rfl⟩)) ?_)
  refine WL.op rfl (opW.buildSl hS (([((vz 32).set 0 1), ((vz 32).set 0 2), ((vz 32).set 0 4), (vz 32)] : List Key)) [.agg (Enc.enc ((vz 32).set 0 1)), .agg (Enc.enc ((vz 32).set 0 2)), .agg (Enc.enc ((vz 32).set 0 4)), .agg (Enc.enc (vz 32))] rfl rfl rfl rfl (by decide) ?_)
  intro b10 w hw hS
  refine WL.op rfl (opW.buildE (r := ((⟨false, ⟨2, 1, 1⟩, ⟨some ⟨b10, 0, none⟩, 4, 4⟩, vz 32, ⟨none, 0, 0⟩, ⟨none, 0, 0⟩⟩ : Message) : Message)) (ps := Message.parts ((⟨false, ⟨2, 1, 1⟩, ⟨some ⟨b10, 0, none⟩, 4, 4⟩, vz 32, ⟨none, 0, 0⟩, ⟨none, 0, 0⟩⟩ : Message) : Message)) (Message.enc_eq _) (by first | rfl | (simp only [sysK, budK, enc_vset, enc_vz, Header.enc_eq, Header.parts, Role.enc_eq, Role.parts, Instr.enc_eq, Instr.parts, Lookup.enc_eq, Lookup.parts, Message.enc_eq, Message.parts]; rfl)) (by (repeat' (first | exact trivial | refine And.intro ?_ ?_)) <;> first | rfl | exact Enc.size_eq _ | (simp; done)) ?_)
  refine WL.op rfl (opW.allocA hS ?_)
  intro b1 w _ hS
  refine WL.op0 (opW.storeE hS rfl rfl (by first | exact .here | exact .there (.here) | exact .there (.there (.here)) | exact .there (.there (.there (.here))) | exact .there (.there (.there (.there (.here)))) | exact .there (.there (.there (.there (.there (.here))))) | exact .there (.there (.there (.there (.there (.there (.here)))))) | exact .there (.there (.there (.there (.there (.there (.there (.here))))))) | exact .there (.there (.there (.there (.there (.there (.there (.there (.here)))))))) | exact .there (.there (.there (.there (.there (.there (.there (.there (.there (.here))))))))) | exact .there (.there (.there (.there (.there (.there (.there (.there (.there (.there (.here)))))))))) | exact .there (.there (.there (.there (.there (.there (.there (.there (.there (.there (.there (.here))))))))))) | exact .there (.there (.there (.there (.there (.there (.there (.there (.there (.there (.there (.there (.here))))))))))))) (by first | rfl | exact Enc.size_eq _) ?_)
  intro w hS; replace hS := hS _ (by first | exact .here | exact .there (.here) | exact .there (.there (.here)) | exact .there (.there (.there (.here))) | exact .there (.there (.there (.there (.here)))) | exact .there (.there (.there (.there (.there (.here))))) | exact .there (.there (.there (.there (.there (.there (.here)))))) | exact .there (.there (.there (.there (.there (.there (.there (.here))))))) | exact .there (.there (.there (.there (.there (.there (.there (.there (.here)))))))) | exact .there (.there (.there (.there (.there (.there (.there (.there (.there (.here))))))))) | exact .there (.there (.there (.there (.there (.there (.there (.there (.there (.there (.here)))))))))) | exact .there (.there (.there (.there (.there (.there (.there (.there (.there (.there (.there (.here))))))))))) | exact .there (.there (.there (.there (.there (.there (.there (.there (.there (.there (.there (.there (.here)))))))))))))
  refine WL.nil ?_
  refine thenQ_n (hK2 _ _ ?_)
  refine WC.seq (fun K3 hK3 => ?_)
  refine WC.region ?_
  refine WL.op rfl (opW.loadV rfl (hS.ldA (cs := Enc.enc (⟨false, ⟨2, 1, 1⟩, ⟨some ⟨b10, 0, none⟩, 4, 4⟩, vz 32, ⟨none, 0, 0⟩, ⟨none, 0, 0⟩⟩ : Message)) (by first | exact .here | exact .there (.here) | exact .there (.there (.here)) | exact .there (.there (.there (.here))) | exact .there (.there (.there (.there (.here)))) | exact .there (.there (.there (.there (.there (.here))))) | exact .there (.there (.there (.there (.there (.there (.here)))))) | exact .there (.there (.there (.there (.there (.there (.there (.here))))))) | exact .there (.there (.there (.there (.there (.there (.there (.there (.here)))))))) | exact .there (.there (.there (.there (.there (.there (.there (.there (.there (.here))))))))) | exact .there (.there (.there (.there (.there (.there (.there (.there (.there (.there (.here)))))))))) | exact .there (.there (.there (.there (.there (.there (.there (.there (.there (.there (.there (.here))))))))))) | exact .there (.there (.there (.there (.there (.there (.there (.there (.there (.there (.there (.there (.here))))))))))))) (Enc.size_eq _)) ?_)
  refine WL.op rfl (opW.call (of_ok _ (⟨false, ⟨2, 1, 1⟩, ⟨some ⟨b10, 0, none⟩, 4, 4⟩, vz 32, ⟨none, 0, 0⟩, ⟨none, 0, 0⟩⟩ : Message) _ _ ([((vz 32).set 0 1), ((vz 32).set 0 2), ((vz 32).set 0 4), (vz 32)] : List Key) [] [] (hS.sl (by first | exact .here | exact .there (.here) | exact .there (.there (.here)) | exact .there (.there (.there (.here))) | exact .there (.there (.there (.there (.here)))) | exact .there (.there (.there (.there (.there (.here))))) | exact .there (.there (.there (.there (.there (.there (.here)))))) | exact .there (.there (.there (.there (.there (.there (.there (.here))))))) | exact .there (.there (.there (.there (.there (.there (.there (.there (.here)))))))) | exact .there (.there (.there (.there (.there (.there (.there (.there (.there (.here))))))))) | exact .there (.there (.there (.there (.there (.there (.there (.there (.there (.there (.here)))))))))) | exact .there (.there (.there (.there (.there (.there (.there (.there (.there (.there (.there (.here))))))))))) | exact .there (.there (.there (.there (.there (.there (.there (.there (.there (.there (.there (.there (.here)))))))))))))) (SlR.nil _) (SlR.nil _) (by decide) (by decide) (by decide)) rfl ?_)
  rintro _ w2 ⟨v14, e14, rfl, hof, hw⟩
  obtain ⟨rfl, hv14⟩ : e14 = 0 ∧ New w w2 v14 41 ([⟨((vz 32).set 0 1), true, true⟩, ⟨((vz 32).set 0 2), true, false⟩, ⟨((vz 32).set 0 4), false, true⟩, ⟨(vz 32), false, false⟩] : List Role) := by
    rcases hof with ⟨_, h1, h2⟩ | ⟨h, _⟩
    · exact ⟨h1, lives7_eq ▸ h2⟩
    · exact absurd lives7_nd h
  replace hS := hS.newOwn hw hv14.1 hv14.2
  refine WL.op rfl (opW.moveV (v := .tuple #[v14, .int .i64 0]) rfl ?_)
  refine WL.op rfl (opW.extract rfl rfl ?_)
  refine WL.op rfl (opW.extract rfl rfl ?_)
  refine WL.op rfl (opW.assignV rfl ?_)
  refine WL.op rfl (opW.assignI rfl ?_)
  refine WL.nil ?_
  refine thenQ_n (hK3 _ _ ?_)
  refine WC.seq (fun K4 hK4 => ?_)
  refine WC.region ?_
  refine WL.op rfl (opW.buildVec (k := ((vz 32).set 0 1)) (by first | rfl | (simp only [sysK, budK, enc_vset, enc_vz]; rfl)) (by intro p hp; first | (exfalso; simp at hp; done) | (simp only [List.map_cons, List.map_nil, List.mem_cons, List.not_mem_nil, or_false] at hp; rcases hp with rfl | rfl | rfl | rfl <;> exact ⟨by simp, rfl⟩)) ?_)
  refine WL.op rfl (opW.buildE (r := ((⟨((vz 32).set 0 1), true, true⟩ : Role) : Role)) (ps := Role.parts ((⟨((vz 32).set 0 1), true, true⟩ : Role) : Role)) (Role.enc_eq _) (by first | rfl | (simp only [sysK, budK, enc_vset, enc_vz, Header.enc_eq, Header.parts, Role.enc_eq, Role.parts, Instr.enc_eq, Instr.parts, Lookup.enc_eq, Lookup.parts, Message.enc_eq, Message.parts]; rfl)) (by (repeat' (first | exact trivial | refine And.intro ?_ ?_)) <;> first | rfl | exact Enc.size_eq _ | (simp; done)) ?_)
  refine WL.op rfl (opW.buildVec (k := ((vz 32).set 0 2)) (by first | rfl | (simp only [sysK, budK, enc_vset, enc_vz]; rfl)) (by intro p hp; first | (exfalso; simp at hp; done) | (simp only [List.map_cons, List.map_nil, List.mem_cons, List.not_mem_nil, or_false] at hp; rcases hp with rfl | rfl | rfl | rfl <;> exact ⟨by simp, rfl⟩)) ?_)
  refine WL.op rfl (opW.buildE (r := ((⟨((vz 32).set 0 2), true, false⟩ : Role) : Role)) (ps := Role.parts ((⟨((vz 32).set 0 2), true, false⟩ : Role) : Role)) (Role.enc_eq _) (by first | rfl | (simp only [sysK, budK, enc_vset, enc_vz, Header.enc_eq, Header.parts, Role.enc_eq, Role.parts, Instr.enc_eq, Instr.parts, Lookup.enc_eq, Lookup.parts, Message.enc_eq, Message.parts]; rfl)) (by (repeat' (first | exact trivial | refine And.intro ?_ ?_)) <;> first | rfl | exact Enc.size_eq _ | (simp; done)) ?_)
  refine WL.op rfl (opW.buildVec (k := ((vz 32).set 0 4)) (by first | rfl | (simp only [sysK, budK, enc_vset, enc_vz]; rfl)) (by intro p hp; first | (exfalso; simp at hp; done) | (simp only [List.map_cons, List.map_nil, List.mem_cons, List.not_mem_nil, or_false] at hp; rcases hp with rfl | rfl | rfl | rfl <;> exact ⟨by simp, rfl⟩)) ?_)
  refine WL.op rfl (opW.buildE (r := ((⟨((vz 32).set 0 4), false, true⟩ : Role) : Role)) (ps := Role.parts ((⟨((vz 32).set 0 4), false, true⟩ : Role) : Role)) (Role.enc_eq _) (by first | rfl | (simp only [sysK, budK, enc_vset, enc_vz, Header.enc_eq, Header.parts, Role.enc_eq, Role.parts, Instr.enc_eq, Instr.parts, Lookup.enc_eq, Lookup.parts, Message.enc_eq, Message.parts]; rfl)) (by (repeat' (first | exact trivial | refine And.intro ?_ ?_)) <;> first | rfl | exact Enc.size_eq _ | (simp; done)) ?_)
  refine WL.op rfl (opW.buildE (r := ((⟨(vz 32), false, false⟩ : Role) : Role)) (ps := Role.parts ((⟨(vz 32), false, false⟩ : Role) : Role)) (Role.enc_eq _) (by first | rfl | (simp only [sysK, budK, enc_vset, enc_vz, Header.enc_eq, Header.parts, Role.enc_eq, Role.parts, Instr.enc_eq, Instr.parts, Lookup.enc_eq, Lookup.parts, Message.enc_eq, Message.parts]; rfl)) (by (repeat' (first | exact trivial | refine And.intro ?_ ?_)) <;> first | rfl | exact Enc.size_eq _ | (simp; done)) ?_)
  refine WL.op rfl (opW.buildSl hS (([⟨((vz 32).set 0 1), true, true⟩, ⟨((vz 32).set 0 2), true, false⟩, ⟨((vz 32).set 0 4), false, true⟩, ⟨(vz 32), false, false⟩] : List Role)) [.agg (Enc.enc (⟨((vz 32).set 0 1), true, true⟩ : Role)), .agg (Enc.enc (⟨((vz 32).set 0 2), true, false⟩ : Role)), .agg (Enc.enc (⟨((vz 32).set 0 4), false, true⟩ : Role)), .agg (Enc.enc (⟨(vz 32), false, false⟩ : Role))] rfl rfl rfl rfl (by decide) ?_)
  intro b24 w hw hS
  refine WL.op rfl (opW.assignV rfl ?_)
  refine WL.nil ?_
  refine thenQ_n (hK4 _ _ ?_)
  refine WC.seq (fun K5 hK5 => ?_)
  refine WC.region ?_
  refine WL.op rfl (opW.moveI rfl ?_)
  refine WL.op rfl (opW.boolT (by decide) (opW.eql rfl rfl ⟨rfl, rfl⟩) ?_)
  refine WL.op rfl (opW.moveB rfl ?_)
  refine WL.gT 27 rfl rfl rfl (WL.op rfl (opW.moveV rfl ?_))
  refine WL.gT 27 rfl rfl rfl (WL.op rfl (opW.moveV rfl ?_))
  refine WL.gT 27 rfl rfl rfl (WL.op rfl (opW.call (sameRoles_ok _ _ _ ([⟨((vz 32).set 0 1), true, true⟩, ⟨((vz 32).set 0 2), true, false⟩, ⟨((vz 32).set 0 4), false, true⟩, ⟨(vz 32), false, false⟩] : List Role) ([⟨((vz 32).set 0 1), true, true⟩, ⟨((vz 32).set 0 2), true, false⟩, ⟨((vz 32).set 0 4), false, true⟩, ⟨(vz 32), false, false⟩] : List Role) (hS.sl (by first | exact .here | exact .there (.here) | exact .there (.there (.here)) | exact .there (.there (.there (.here))) | exact .there (.there (.there (.there (.here)))) | exact .there (.there (.there (.there (.there (.here))))) | exact .there (.there (.there (.there (.there (.there (.here)))))) | exact .there (.there (.there (.there (.there (.there (.there (.here))))))) | exact .there (.there (.there (.there (.there (.there (.there (.there (.here)))))))) | exact .there (.there (.there (.there (.there (.there (.there (.there (.there (.here))))))))) | exact .there (.there (.there (.there (.there (.there (.there (.there (.there (.there (.here)))))))))) | exact .there (.there (.there (.there (.there (.there (.there (.there (.there (.there (.there (.here))))))))))) | exact .there (.there (.there (.there (.there (.there (.there (.there (.there (.there (.there (.there (.here)))))))))))))) (hS.sl (by first | exact .here | exact .there (.here) | exact .there (.there (.here)) | exact .there (.there (.there (.here))) | exact .there (.there (.there (.there (.here)))) | exact .there (.there (.there (.there (.there (.here))))) | exact .there (.there (.there (.there (.there (.there (.here)))))) | exact .there (.there (.there (.there (.there (.there (.there (.here))))))) | exact .there (.there (.there (.there (.there (.there (.there (.there (.here)))))))) | exact .there (.there (.there (.there (.there (.there (.there (.there (.there (.here))))))))) | exact .there (.there (.there (.there (.there (.there (.there (.there (.there (.there (.here)))))))))) | exact .there (.there (.there (.there (.there (.there (.there (.there (.there (.there (.there (.here))))))))))) | exact .there (.there (.there (.there (.there (.there (.there (.there (.there (.there (.there (.there (.here))))))))))))))) rfl ?_))
  rintro _ w ⟨rfl, hw⟩; replace hS := hS.bel hw
  rw [show decide (([⟨((vz 32).set 0 1), true, true⟩, ⟨((vz 32).set 0 2), true, false⟩, ⟨((vz 32).set 0 4), false, true⟩, ⟨(vz 32), false, false⟩] : List Role) = ([⟨((vz 32).set 0 1), true, true⟩, ⟨((vz 32).set 0 2), true, false⟩, ⟨((vz 32).set 0 4), false, true⟩, ⟨(vz 32), false, false⟩] : List Role)) = true from by simp]
  refine WL.op rfl (opW.pickT rfl rfl ?_)
  refine WL.op rfl (opW.moveB rfl ?_)
  refine WL.gT 32 rfl rfl rfl (WL.op rfl (opW.call (sys_ok _) rfl ?_))
  rintro _ w ⟨rfl, hw⟩; replace hS := hS.bel hw
  refine WL.gT 32 rfl rfl rfl (WL.op rfl (opW.buildVec (k := (vz 32)) (by first | rfl | (simp only [sysK, budK, enc_vset, enc_vz]; rfl)) (by intro p hp; first | (exfalso; simp at hp; done) | (simp only [List.map_cons, List.map_nil, List.mem_cons, List.not_mem_nil, or_false] at hp; rcases hp with rfl | rfl | rfl | rfl <;> exact ⟨by simp, rfl⟩)) ?_))
  refine WL.gT 32 rfl rfl rfl (WL.op rfl (opW.boolT (by decide +kernel) (opW.eqlE (a := sysK) (b := vz 32) rfl rfl ⟨rfl, rfl⟩) ?_))
  refine WL.op rfl (opW.pickT rfl rfl ?_)
  refine WL.op rfl (opW.moveB rfl ?_)
  refine WL.gT 37 rfl rfl rfl (WL.op rfl (opW.call (bud_ok _) rfl ?_))
  rintro _ w ⟨rfl, hw⟩; replace hS := hS.bel hw
  refine WL.gT 37 rfl rfl rfl (WL.op rfl (opW.buildVec (k := budK) (by first | rfl | (simp only [sysK, budK, enc_vset, enc_vz]; rfl)) (by intro p hp; first | (exfalso; simp at hp; done) | (simp only [List.map_cons, List.map_nil, List.mem_cons, List.not_mem_nil, or_false] at hp; rcases hp with rfl | rfl | rfl | rfl <;> exact ⟨by simp, rfl⟩)) ?_))
  refine WL.gT 37 rfl rfl rfl (WL.op rfl (opW.boolT (by decide +kernel) (opW.eqlE (a := budK) (b := budK) rfl rfl ⟨rfl, rfl⟩) ?_))
  refine WL.op rfl (opW.pickT rfl rfl ?_)
  refine WL.op rfl (opW.assignB rfl ?_)
  refine WL.nil ?_
  refine thenQ_n (hK5 _ _ ?_)
  refine WC.ret ?_
  refine bodyQ_ret (.tmpB rfl .nil) ?_
  exact ⟨rfl, hS.old⟩

end Go.Fer
