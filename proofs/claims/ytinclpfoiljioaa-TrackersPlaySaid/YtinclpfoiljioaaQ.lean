/- the document's answers -/
import Derived.Test.YtinclpfoiljioaaP
set_option linter.all false
namespace Go.Fer
open Go Go.Proofs Go.RowKit

theorem rnew_ok (w0 : World) (l : Limits) : Ret Try.prog 11 #[.agg (Enc.enc l)] w0 (fun u w' => ∃ p d, u = .pointer (some ⟨p, 0, none⟩) ∧ d.lim = l ∧ d.l = [] ∧ NewE w0 w' (rfE p d) ∧ Bel w0 w') := by
  refine Ret.enter (args := [.agg (Enc.enc l)]) Try.func11 rfl Try.ntmps11 Try.results11 rfl ?_
  have hS := St.start w0
  refine WC.seq (fun K1 hK1 => ?_)
  refine WC.region ?_
  refine WL.op rfl (opW.boxA hS rfl ?_)
  intro b1 w _ hS
  refine WL.op rfl (opW.assignV rfl ?_)
  refine WL.nil ?_
  refine thenQ_n (hK1 _ _ ?_)
  refine WC.seq (fun K2 hK2 => ?_)
  refine WC.region ?_
  refine WL.op rfl (opW.loadV rfl (hS.ldA (cs := Enc.enc l) (by first | exact .here | exact .there (.here) | exact .there (.there (.here)) | exact .there (.there (.there (.here))) | exact .there (.there (.there (.there (.here)))) | exact .there (.there (.there (.there (.there (.here))))) | exact .there (.there (.there (.there (.there (.there (.here)))))) | exact .there (.there (.there (.there (.there (.there (.there (.here))))))) | exact .there (.there (.there (.there (.there (.there (.there (.there (.here)))))))) | exact .there (.there (.there (.there (.there (.there (.there (.there (.there (.here))))))))) | exact .there (.there (.there (.there (.there (.there (.there (.there (.there (.there (.here)))))))))) | exact .there (.there (.there (.there (.there (.there (.there (.there (.there (.there (.there (.here))))))))))) | exact .there (.there (.there (.there (.there (.there (.there (.there (.there (.there (.there (.there (.here))))))))))))) (Enc.size_eq _)) ?_)
  refine WL.op rfl (opW.buildE (r := ((RfS.mk l ⟨none, 0, 0⟩) : RfS)) (ps := RfS.parts ((RfS.mk l ⟨none, 0, 0⟩) : RfS)) (RfS.enc_eq _) (by first | rfl | (simp only [kK, enc_vset, enc_vz, Limits.enc_eq, Limits.parts, Asked.enc_eq, Asked.parts, TrS.enc_eq, TrS.parts, Added.enc_eq, Added.parts, RfS.enc_eq, RfS.parts]; rfl)) (by (repeat' (first | exact trivial | refine And.intro ?_ ?_)) <;> first | rfl | exact Enc.size_eq _ | (simp; done)) ?_)
  refine WL.op rfl (opW.boxA hS rfl ?_)
  intro b5 w _ hS
  refine WL.op rfl (opW.assignV (v := .pointer (some ⟨b5, 0, none⟩)) rfl ?_)
  refine WL.nil ?_
  refine thenQ_n (hK2 _ _ ?_)
  refine WC.ret ?_
  refine bodyQ_ret (.tmpV (v := .pointer (some ⟨b5, 0, none⟩)) rfl .nil) ?_
  refine ⟨b5, ⟨l, ⟨none, 0, 0⟩, []⟩, rfl, rfl, rfl, ?_, hS.old⟩
  have h1 : St w0 [blkE b5 (Enc.enc (RfS.mk l ⟨none, 0, 0⟩)) 53] _ := hS.sub (by repeat (first | with_reducible exact List.nil_sublist _ | with_reducible exact List.Sublist.refl _ | with_reducible refine List.Sublist.cons₂ _ ?_ | with_reducible refine List.Sublist.cons _ ?_))
  have h2 : St w0 [ownE (SlV.v ⟨none, 0, 0⟩) 57 ([] : List Added), blkE b5 (Enc.enc (RfS.mk l ⟨none, 0, 0⟩)) 53] _ := h1.nilOwn _
  exact (St.rfClose (S := []) ⟨l, ⟨none, 0, 0⟩, []⟩ h2.swap).takeE .here

theorem rwould_ok (w0 : World) (p : Nat) (d : RfD) (cost : Nat) (keys : List Key) (space : Nat) (v : Value) (ha : RfAt w0 p d) (ho : okA d.l) (hk : SlR w0 v keys) (hc : cost < 18446744073709551616) (hs : space < 18446744073709551616) : Ret Try.prog 13 #[.pointer (some ⟨p, 0, none⟩), .int .u64 (cost : Int), v, .int .u64 (space : Int)] w0 (fun u w' => u = .int .i64 (wouldR d cost keys space) ∧ Bel w0 w') := by
  refine Ret.enter (args := [.pointer (some ⟨p, 0, none⟩), .int .u64 (cost : Int), v, .int .u64 (space : Int)]) Try.func13 rfl Try.ntmps13 Try.results13 rfl ?_
  have hS := St.start w0
  refine WC.seq (fun K1 hK1 => ?_)
  refine WC.region ?_
  refine WL.op rfl (opW.assignI rfl ?_)
  refine WL.nil ?_
  refine thenQ_n (hK1 _ _ ?_)
  refine WC.seq (fun K2 hK2 => ?_)
  refine WC.seq (fun K3 hK3 => ?_)
  refine WC.draw 10 (.look 0 (.look 2 (.look 4 (.look 5 (.look 6 (.look 7 (.look 8 (.one 1 (.one 3 (.look 9 .nil)))))))))) (by kernel_rfl) (fun _ _ _ h => h) (fun w1 hw1 => ?_)
  replace hS := hS.bel hw1
  have hS1 := hS
  have hT := St.start w1
  refine ML.look rfl rfl rfl (fun w hw => (by have hS := hS1.bel hw; exact opW.moveV (v := .pointer (some ⟨p, 0, none⟩)) rfl ⟨rfl, rfl⟩)) ?_
  refine ML.look rfl rfl rfl (fun w hw => (by have hS := hS1.bel hw; exact opW.moveI rfl ⟨rfl, rfl⟩)) ?_
  refine ML.look rfl rfl rfl (fun w hw => (by have hS := hS1.bel hw; exact opW.moveV (v := .pointer (some ⟨p, 0, none⟩)) rfl ⟨rfl, rfl⟩)) ?_
  refine ML.look rfl rfl rfl (fun w hw => (by have hS := hS1.bel hw; exact opW.nilCheckB rfl ⟨rfl, rfl⟩)) ?_
  refine ML.look rfl rfl rfl (fun w hw => (by have hS := hS1.bel hw; exact opW.fieldAddrB rfl ⟨rfl, rfl⟩)) ?_
  refine ML.look rfl rfl rfl (fun w hw => (by have hS := hS1.bel hw; exact opW.fieldAddrB rfl ⟨rfl, rfl⟩)) ?_
  refine ML.look rfl rfl rfl (fun w hw => (by have hS := hS1.bel hw; exact opW.loadV rfl ((ha.1.bel hS.old).at1 (RfS.at_max_block _)) ⟨rfl, rfl⟩)) ?_
  refine ML.one rfl rfl rfl (opW.call (rblock_ok _ p d (ha.bel hS.old) ho) rfl ?_)
  rintro _ w ⟨rfl, hw⟩; replace hT := hT.bel hw
  refine ⟨hT.old, ?_⟩
  have hS := hS1.merge hT
  try simp only [List.cons_append, List.nil_append] at hS
  refine ML.one rfl rfl rfl (opW.call (rsum_ok _ (rB d.l) cost (fB_lt _) hc) rfl ?_)
  rintro _ w ⟨rfl, hw⟩; replace hT := hT.bel hw
  refine ⟨hT.old, ?_⟩
  have hS := hS1.merge hT
  try simp only [List.cons_append, List.nil_append] at hS
  refine ML.look rfl rfl rfl (fun w hw => (by have hS := hS1.bel hw; exact opW.gtr rfl rfl ⟨rfl, rfl⟩)) ?_
  refine ML.nil ?_
  refine thenQ_n (hK3 _ _ ?_)
  refine WC.cond _ rfl (fun hc0 => ?_) (fun hc0 => ?_)
  ·
    have hr0 := hc0
    try simp only [decide_eq_true_eq, decide_eq_false_iff_not, Bool.and_eq_true, Bool.or_eq_true, Bool.and_eq_false_iff, Bool.or_eq_false_iff, Bool.not_eq_true', Bool.not_eq_false', Int.not_lt, Int.not_le] at hc0
    refine WC.seq (fun K4 hK4 => ?_)
    refine WC.region ?_
    refine WL.op rfl (opW.assignI rfl ?_)
    refine WL.nil ?_
    refine thenQ_n (hK4 _ _ ?_)
    refine WC.ret ?_
    refine thenQ_r ?_
    refine bodyQ_ret (.tmpI rfl .nil) ?_
    have h1 : d.lim.block < sumH (rB d.l) cost := by omega
    exact ⟨congrArg (Value.int .i64) (if_pos h1).symm, hS.old⟩
  ·
    have hr0 := hc0
    try simp only [decide_eq_true_eq, decide_eq_false_iff_not, Bool.and_eq_true, Bool.or_eq_true, Bool.and_eq_false_iff, Bool.or_eq_false_iff, Bool.not_eq_true', Bool.not_eq_false', Int.not_lt, Int.not_le] at hc0
    have h1 : ¬ d.lim.block < sumH (rB d.l) cost := by omega
    refine WC.skip ?_
    refine thenQ_n (hK2 _ _ ?_)
    refine WC.seq (fun K5 hK5 => ?_)
    refine WC.seq (fun K6 hK6 => ?_)
    refine WC.region ?_
    refine WL.op rfl (opW.assignI rfl ?_)
    refine WL.nil ?_
    refine thenQ_n (hK6 _ _ ?_)
    refine WC.block ?_
    refine WC.loop (fun q f w => ∃ k : Nat, Fits [(0, .pointer (some ⟨p, 0, none⟩)), (1, .int .u64 (cost : Int)), (2, v), (3, .int .u64 (space : Int)), (9, .int .i64 (k : Int))] f ∧ St w0 [] w ∧ (∀ j (hj : j < keys.length), j < k → ¬ d.lim.account < sumH (rO keys[j] d.l) cost) ∧ k ≤ keys.length ∧ q = keys.length - k) (keys.length) ?_ ?_
    ·
      exact ⟨0, ⟨rfl, rfl, rfl, rfl, rfl, trivial⟩, hS.sub (by repeat (first | with_reducible exact List.nil_sublist _ | with_reducible exact List.Sublist.refl _ | with_reducible refine List.Sublist.cons₂ _ ?_ | with_reducible refine List.Sublist.cons _ ?_)), fun j _ h => by omega, Nat.zero_le _, rfl⟩
    ·
      rintro q f w ⟨k, hfit, hS, hno, hk0, hm⟩
      refine WC.fits _ hfit (fun g => ?_)
      clear hfit
      refine WC.seq (fun K7 hK7 => ?_)
      refine WC.seq (fun K8 hK8 => ?_)
      refine WC.region ?_
      refine WL.op rfl (opW.moveI rfl ?_)
      refine WL.op rfl (opW.moveV (v := v) rfl ?_)
      refine WL.op rfl (opW.lenV rfl ((hk.bel hS.old)) ?_)
      refine WL.op rfl (opW.lss rfl rfl ?_)
      refine WL.nil ?_
      refine thenQ_n (hK8 _ _ ?_)
      refine WC.cond _ rfl (fun hc1 => ?_) (fun hc1 => ?_)
      ·
        have hr1 := hc1
        try simp only [decide_eq_true_eq, decide_eq_false_iff_not, Bool.and_eq_true, Bool.or_eq_true, Bool.and_eq_false_iff, Bool.or_eq_false_iff, Bool.not_eq_true', Bool.not_eq_false', Int.not_lt, Int.not_le] at hc1
        have hkl : k < keys.length := by omega
        have hle := hk.le
        simp only [maxLen] at hle
        refine WC.skip ?_
        refine thenQ_n (hK7 _ _ ?_)
        refine WC.seq (fun K9 hK9 => ?_)
        refine WC.block ?_
        refine WC.seq (fun K10 hK10 => ?_)
        refine WC.draw 14 (.look 0 (.look 1 (.look 2 (.look 3 (.look 4 (.look 6 (.look 8 (.look 9 (.look 10 (.look 11 (.look 12 (.one 5 (.one 7 (.look 13 .nil)))))))))))))) (by kernel_rfl) (fun _ _ _ h => h) (fun w1 hw1 => ?_)
        replace hS := hS.bel hw1
        have hS1 := hS
        have hT := St.start w1
        refine ML.look rfl rfl rfl (fun w hw => (by have hS := hS1.bel hw; exact opW.moveV (v := .pointer (some ⟨p, 0, none⟩)) rfl ⟨rfl, rfl⟩)) ?_
        refine ML.look rfl rfl rfl (fun w hw => (by have hS := hS1.bel hw; exact opW.moveV (v := v) rfl ⟨rfl, rfl⟩)) ?_
        refine ML.look rfl rfl rfl (fun w hw => (by have hS := hS1.bel hw; exact opW.moveI rfl ⟨rfl, rfl⟩)) ?_
        refine ML.look rfl rfl rfl (fun w hw => (by have hS := hS1.bel hw; exact opW.idxV rfl ((hk.bel hS.old)) rfl (by omega) ⟨rfl, rfl⟩)) ?_
        refine ML.look rfl rfl rfl (fun w hw => (by have hS := hS1.bel hw; exact opW.loadV rfl (((hk.bel hS.old).isPt hkl).ldA (Enc.size_eq keys[k])) ⟨rfl, rfl⟩)) ?_
        refine ML.look rfl rfl rfl (fun w hw => (by have hS := hS1.bel hw; exact opW.moveI rfl ⟨rfl, rfl⟩)) ?_
        refine ML.look rfl rfl rfl (fun w hw => (by have hS := hS1.bel hw; exact opW.moveV (v := .pointer (some ⟨p, 0, none⟩)) rfl ⟨rfl, rfl⟩)) ?_
        refine ML.look rfl rfl rfl (fun w hw => (by have hS := hS1.bel hw; exact opW.nilCheckB rfl ⟨rfl, rfl⟩)) ?_
        refine ML.look rfl rfl rfl (fun w hw => (by have hS := hS1.bel hw; exact opW.fieldAddrB rfl ⟨rfl, rfl⟩)) ?_
        refine ML.look rfl rfl rfl (fun w hw => (by have hS := hS1.bel hw; exact opW.fieldAddrB rfl ⟨rfl, rfl⟩)) ?_
        refine ML.look rfl rfl rfl (fun w hw => (by have hS := hS1.bel hw; exact opW.loadV rfl ((ha.1.bel hS.old).at1 (RfS.at_max_account _)) ⟨rfl, rfl⟩)) ?_
        refine ML.one rfl rfl rfl (opW.call (rof_ok _ p d keys[k] (ha.bel hS.old) ho) rfl ?_)
        rintro _ w ⟨rfl, hw⟩; replace hT := hT.bel hw
        refine ⟨hT.old, ?_⟩
        have hS := hS1.merge hT
        try simp only [List.cons_append, List.nil_append] at hS
        refine ML.one rfl rfl rfl (opW.call (rsum_ok _ (rO keys[k] d.l) cost (fO_lt _ _) hc) rfl ?_)
        rintro _ w ⟨rfl, hw⟩; replace hT := hT.bel hw
        refine ⟨hT.old, ?_⟩
        have hS := hS1.merge hT
        try simp only [List.cons_append, List.nil_append] at hS
        refine ML.look rfl rfl rfl (fun w hw => (by have hS := hS1.bel hw; exact opW.gtr rfl rfl ⟨rfl, rfl⟩)) ?_
        refine ML.nil ?_
        refine thenQ_n (hK10 _ _ ?_)
        refine WC.cond _ rfl (fun hc2 => ?_) (fun hc2 => ?_)
        ·
          have hr2 := hc2
          try simp only [decide_eq_true_eq, decide_eq_false_iff_not, Bool.and_eq_true, Bool.or_eq_true, Bool.and_eq_false_iff, Bool.or_eq_false_iff, Bool.not_eq_true', Bool.not_eq_false', Int.not_lt, Int.not_le] at hc2
          refine WC.seq (fun K11 hK11 => ?_)
          refine WC.region ?_
          refine WL.op rfl (opW.assignI rfl ?_)
          refine WL.nil ?_
          refine thenQ_n (hK11 _ _ ?_)
          refine WC.ret ?_
          refine blockQ_r ?_
          refine thenQ_r ?_
          refine thenQ_r ?_
          refine blockQ_r ?_
          refine thenQ_r ?_
          refine bodyQ_ret (.tmpI rfl .nil) ?_
          have h2 : keys.any (fun k => decide (d.lim.account < sumH (rO k d.l) cost)) = true := List.any_eq_true.2 ⟨keys[k], List.getElem_mem hkl, decide_eq_true (by omega)⟩
          exact ⟨congrArg (Value.int .i64) (by unfold wouldR; rw [if_neg h1, if_pos h2]), hS.old⟩
        ·
          have hr2 := hc2
          try simp only [decide_eq_true_eq, decide_eq_false_iff_not, Bool.and_eq_true, Bool.or_eq_true, Bool.and_eq_false_iff, Bool.or_eq_false_iff, Bool.not_eq_true', Bool.not_eq_false', Int.not_lt, Int.not_le] at hc2
          refine WC.skip ?_
          refine blockQ_n ?_
          refine thenQ_n (hK9 _ _ ?_)
          refine WC.region ?_
          refine WL.op rfl (opW.moveI rfl ?_)
          refine WL.op rfl (opW.add rfl rfl (wrap_i64 (by omega)) ?_)
          refine WL.op rfl (opW.assignI rfl ?_)
          refine WL.nil ?_
          refine thenQ_n ?_
          refine ⟨keys.length - (k + 1), by omega, k + 1, ⟨rfl, rfl, rfl, rfl, congrArg (Value.int .i64) (by omega), trivial⟩, hS.sub (by repeat (first | with_reducible exact List.nil_sublist _ | with_reducible exact List.Sublist.refl _ | with_reducible refine List.Sublist.cons₂ _ ?_ | with_reducible refine List.Sublist.cons _ ?_)), fun j hj hjk => ?_, by omega, rfl⟩
          rcases Nat.lt_or_ge j k with h | h
          · exact hno j hj h
          · obtain rfl : j = k := by omega
            omega
      ·
        have hr1 := hc1
        try simp only [decide_eq_true_eq, decide_eq_false_iff_not, Bool.and_eq_true, Bool.or_eq_true, Bool.and_eq_false_iff, Bool.or_eq_false_iff, Bool.not_eq_true', Bool.not_eq_false', Int.not_lt, Int.not_le] at hc1
        have hkk : k = keys.length := by omega
        have h2 : ¬ keys.any (fun k => decide (d.lim.account < sumH (rO k d.l) cost)) = true := by
          intro hc
          obtain ⟨x, hx, hx2⟩ := List.any_eq_true.1 hc
          obtain ⟨j, hj, rfl⟩ := List.getElem_of_mem hx
          exact hno j hj (by omega) (of_decide_eq_true hx2)
        refine WC.exit ?_
        refine thenQ_e ?_
        refine thenQ_e ?_
        refine blockQ_hit ?_
        refine thenQ_n (hK5 _ _ ?_)
        refine WC.seq (fun K12 hK12 => ?_)
        refine WC.seq (fun K13 hK13 => ?_)
        refine WC.draw 10 (.look 0 (.look 2 (.look 4 (.look 5 (.look 6 (.look 7 (.look 8 (.one 1 (.one 3 (.look 9 .nil)))))))))) (by kernel_rfl) (fun _ _ _ h => h) (fun w1 hw1 => ?_)
        replace hS := hS.bel hw1
        have hS1 := hS
        have hT := St.start w1
        refine ML.look rfl rfl rfl (fun w hw => (by have hS := hS1.bel hw; exact opW.moveV (v := .pointer (some ⟨p, 0, none⟩)) rfl ⟨rfl, rfl⟩)) ?_
        refine ML.look rfl rfl rfl (fun w hw => (by have hS := hS1.bel hw; exact opW.moveI rfl ⟨rfl, rfl⟩)) ?_
        refine ML.look rfl rfl rfl (fun w hw => (by have hS := hS1.bel hw; exact opW.moveV (v := .pointer (some ⟨p, 0, none⟩)) rfl ⟨rfl, rfl⟩)) ?_
        refine ML.look rfl rfl rfl (fun w hw => (by have hS := hS1.bel hw; exact opW.nilCheckB rfl ⟨rfl, rfl⟩)) ?_
        refine ML.look rfl rfl rfl (fun w hw => (by have hS := hS1.bel hw; exact opW.fieldAddrB rfl ⟨rfl, rfl⟩)) ?_
        refine ML.look rfl rfl rfl (fun w hw => (by have hS := hS1.bel hw; exact opW.fieldAddrB rfl ⟨rfl, rfl⟩)) ?_
        refine ML.look rfl rfl rfl (fun w hw => (by have hS := hS1.bel hw; exact opW.loadV rfl ((ha.1.bel hS.old).at1 (RfS.at_max_space _)) ⟨rfl, rfl⟩)) ?_
        refine ML.one rfl rfl rfl (opW.call (rspace_ok _ p d (ha.bel hS.old) ho) rfl ?_)
        rintro _ w ⟨rfl, hw⟩; replace hT := hT.bel hw
        refine ⟨hT.old, ?_⟩
        have hS := hS1.merge hT
        try simp only [List.cons_append, List.nil_append] at hS
        refine ML.one rfl rfl rfl (opW.call (rsum_ok _ (rP d.l) space (fP_lt _) hs) rfl ?_)
        rintro _ w ⟨rfl, hw⟩; replace hT := hT.bel hw
        refine ⟨hT.old, ?_⟩
        have hS := hS1.merge hT
        try simp only [List.cons_append, List.nil_append] at hS
        refine ML.look rfl rfl rfl (fun w hw => (by have hS := hS1.bel hw; exact opW.gtr rfl rfl ⟨rfl, rfl⟩)) ?_
        refine ML.nil ?_
        refine thenQ_n (hK13 _ _ ?_)
        refine WC.cond _ rfl (fun hc3 => ?_) (fun hc3 => ?_)
        ·
          have hr3 := hc3
          try simp only [decide_eq_true_eq, decide_eq_false_iff_not, Bool.and_eq_true, Bool.or_eq_true, Bool.and_eq_false_iff, Bool.or_eq_false_iff, Bool.not_eq_true', Bool.not_eq_false', Int.not_lt, Int.not_le] at hc3
          refine WC.seq (fun K14 hK14 => ?_)
          refine WC.region ?_
          refine WL.op rfl (opW.assignI rfl ?_)
          refine WL.nil ?_
          refine thenQ_n (hK14 _ _ ?_)
          refine WC.ret ?_
          refine thenQ_r ?_
          refine bodyQ_ret (.tmpI rfl .nil) ?_
          have h3 : d.lim.space < sumH (rP d.l) space := by omega
          exact ⟨congrArg (Value.int .i64) (by unfold wouldR; rw [if_neg h1, if_neg h2, if_pos h3]), hS.old⟩
        ·
          have hr3 := hc3
          try simp only [decide_eq_true_eq, decide_eq_false_iff_not, Bool.and_eq_true, Bool.or_eq_true, Bool.and_eq_false_iff, Bool.or_eq_false_iff, Bool.not_eq_true', Bool.not_eq_false', Int.not_lt, Int.not_le] at hc3
          refine WC.skip ?_
          refine thenQ_n (hK12 _ _ ?_)
          refine WC.seq (fun K15 hK15 => ?_)
          refine WC.region ?_
          refine WL.op rfl (opW.assignI rfl ?_)
          refine WL.nil ?_
          refine thenQ_n (hK15 _ _ ?_)
          refine WC.ret ?_
          refine bodyQ_ret (.tmpI rfl .nil) ?_
          have h3 : ¬ d.lim.space < sumH (rP d.l) space := by omega
          exact ⟨congrArg (Value.int .i64) (by unfold wouldR; rw [if_neg h1, if_neg h2, if_neg h3]), hS.old⟩

theorem radd_ok (wb w0 : World) (S : List Ent) (p : Nat) (d : RfD) (cost : Nat) (keys : List Key) (space : Nat) (v : Value) (hS0 : St wb (rfE p d :: S) w0) (ho : okA d.l) (hk : ∀ w, St wb S w → SlR w v keys) (hc : cost < 18446744073709551616) (hs : space < 18446744073709551616) (hkl : keys.length * 32 ≤ 140737488351232) (hdl : d.l.length ≤ 5000) : Ret Try.prog 15 #[.pointer (some ⟨p, 0, none⟩), .int .u64 (cost : Int), v, .int .u64 (space : Int)] w0 (fun u w' => ∃ d' : RfD, u = .int .i64 (wouldR d cost keys space) ∧ ((wouldR d cost keys space) = 0 → d'.lim = d.lim ∧ ∃ a : Added, d'.l = d.l ++ [(a, keys)] ∧ a.cost = cost ∧ a.space = space) ∧ ((wouldR d cost keys space) ≠ 0 → d' = d) ∧ St wb (rfE p d' :: S) w') := by
  refine Ret.enter (args := [.pointer (some ⟨p, 0, none⟩), .int .u64 (cost : Int), v, .int .u64 (space : Int)]) Try.func15 rfl Try.ntmps15 Try.results15 rfl ?_
  have hS := St.start w0
  replace hS := hS0
  refine WC.seq (fun K1 hK1 => ?_)
  refine WC.region ?_
  refine WL.op rfl (opW.assignI rfl ?_)
  refine WL.nil ?_
  refine thenQ_n (hK1 _ _ ?_)
  refine WC.seq (fun K2 hK2 => ?_)
  refine WC.region ?_
  refine WL.op rfl (opW.moveV (v := .pointer (some ⟨p, 0, none⟩)) rfl ?_)
  refine WL.op rfl (opW.moveI rfl ?_)
  refine WL.op rfl (opW.moveV (v := v) rfl ?_)
  refine WL.op rfl (opW.moveI rfl ?_)
  refine WL.op rfl (opW.call (rwould_ok _ p d cost keys space v (hS.rfAt (by first | exact .here | exact .there (.here) | exact .there (.there (.here)) | exact .there (.there (.there (.here))) | exact .there (.there (.there (.there (.here)))) | exact .there (.there (.there (.there (.there (.here))))) | exact .there (.there (.there (.there (.there (.there (.here)))))) | exact .there (.there (.there (.there (.there (.there (.there (.here))))))) | exact .there (.there (.there (.there (.there (.there (.there (.there (.here)))))))) | exact .there (.there (.there (.there (.there (.there (.there (.there (.there (.here))))))))) | exact .there (.there (.there (.there (.there (.there (.there (.there (.there (.there (.here)))))))))) | exact .there (.there (.there (.there (.there (.there (.there (.there (.there (.there (.there (.here))))))))))) | exact .there (.there (.there (.there (.there (.there (.there (.there (.there (.there (.there (.there (.here)))))))))))))) ho (hk _ (hS.sub (by repeat (first | with_reducible exact List.nil_sublist _ | with_reducible exact List.Sublist.refl _ | with_reducible refine List.Sublist.cons₂ _ ?_ | with_reducible refine List.Sublist.cons _ ?_)))) hc hs) rfl ?_)
  rintro _ w ⟨rfl, hw⟩; replace hS := hS.bel hw
  refine WL.op rfl (opW.assignI rfl ?_)
  refine WL.nil ?_
  refine thenQ_n (hK2 _ _ ?_)
  refine WC.mid (fun f w => ∃ d' : RfD, Fits [(9, .int .i64 (wouldR d cost keys space))] f ∧ ((wouldR d cost keys space) = 0 → d'.lim = d.lim ∧ ∃ a : Added, d'.l = d.l ++ [(a, keys)] ∧ a.cost = cost ∧ a.space = space) ∧ ((wouldR d cost keys space) ≠ 0 → d' = d) ∧ St wb (rfE p d' :: S) w) ?_ ?_
  ·
    refine WC.seq (fun K3 hK3 => ?_)
    refine WC.region ?_
    refine WL.op rfl (opW.moveI rfl ?_)
    refine WL.op rfl (opW.eql rfl rfl ?_)
    refine WL.nil ?_
    refine thenQ_n (hK3 _ _ ?_)
    refine WC.cond _ rfl (fun hc0 => ?_) (fun hc0 => ?_)
    ·
      have hr0 := hc0
      try simp only [decide_eq_true_eq, decide_eq_false_iff_not, Bool.and_eq_true, Bool.or_eq_true, Bool.and_eq_false_iff, Bool.or_eq_false_iff, Bool.not_eq_true', Bool.not_eq_false', Int.not_lt, Int.not_le] at hc0
      refine WC.draw 11 (.look 0 (.look 1 (.look 2 (.look 3 (.look 4 (.look 5 (.look 6 (.look 7 (.one 8 (.look 9 (.one 10 (.one 11 (.one 12 (.one 13 (.one 14 .nil))))))))))))))) (by kernel_rfl) (fun _ _ _ h => h) (fun w1 hw1 => ?_)
      replace hS := hS.bel hw1
      have hS1 := hS
      have hT := St.start w1
      have hz : wouldR d cost keys space = 0 := by simpa using hr0
      have hml : (d.l.map Prod.fst).length = d.l.length := List.length_map _
      replace hS := hS.rfOpen
      replace hS1 := hS
      refine ML.look rfl rfl rfl (fun w hw => (by have hS := hS1.bel hw; exact opW.moveV (v := .pointer (some ⟨p, 0, none⟩)) rfl ⟨rfl, rfl⟩)) ?_
      refine ML.look rfl rfl rfl (fun w hw => (by have hS := hS1.bel hw; exact opW.moveV (v := .pointer (some ⟨p, 0, none⟩)) rfl ⟨rfl, rfl⟩)) ?_
      refine ML.look rfl rfl rfl (fun w hw => (by have hS := hS1.bel hw; exact opW.nilCheckB rfl ⟨rfl, rfl⟩)) ?_
      refine ML.look rfl rfl rfl (fun w hw => (by have hS := hS1.bel hw; exact opW.fieldAddrB rfl ⟨rfl, rfl⟩)) ?_
      refine ML.look rfl rfl rfl (fun w hw => (by have hS := hS1.bel hw; exact opW.loadV rfl (hS.ld1 (by first | exact .here | exact .there (.here) | exact .there (.there (.here)) | exact .there (.there (.there (.here))) | exact .there (.there (.there (.there (.here)))) | exact .there (.there (.there (.there (.there (.here))))) | exact .there (.there (.there (.there (.there (.there (.here)))))) | exact .there (.there (.there (.there (.there (.there (.there (.here))))))) | exact .there (.there (.there (.there (.there (.there (.there (.there (.here)))))))) | exact .there (.there (.there (.there (.there (.there (.there (.there (.there (.here))))))))) | exact .there (.there (.there (.there (.there (.there (.there (.there (.there (.there (.here)))))))))) | exact .there (.there (.there (.there (.there (.there (.there (.there (.there (.there (.there (.here))))))))))) | exact .there (.there (.there (.there (.there (.there (.there (.there (.there (.there (.there (.there (.here))))))))))))) (RfS.at_l _)) ⟨rfl, rfl⟩)) ?_
      refine ML.look rfl rfl rfl (fun w hw => (by have hS := hS1.bel hw; exact opW.moveI rfl ⟨rfl, rfl⟩)) ?_
      refine ML.look rfl rfl rfl (fun w hw => (by have hS := hS1.bel hw; exact opW.moveI rfl ⟨rfl, rfl⟩)) ?_
      refine ML.look rfl rfl rfl (fun w hw => (by have hS := hS1.bel hw; exact opW.moveV (v := v) rfl ⟨rfl, rfl⟩)) ?_
      refine ML.one rfl rfl rfl (opW.appendNil (α := Vector UInt8 32) rfl hT rfl (hk _ (hS.sub (List.Sublist.cons _ (List.Sublist.cons _ (List.sublist_append_right _ _))))) (by omega) (by simp only [maxLen]; omega) ?_)
      intro v25 w hw hT
      obtain ⟨s25, rfl⟩ := (hT.sl (v := v25) (xs := keys) (by first | exact .here | exact .there (.here) | exact .there (.there (.here)) | exact .there (.there (.there (.here))) | exact .there (.there (.there (.there (.here)))) | exact .there (.there (.there (.there (.there (.here))))) | exact .there (.there (.there (.there (.there (.there (.here)))))) | exact .there (.there (.there (.there (.there (.there (.there (.here))))))) | exact .there (.there (.there (.there (.there (.there (.there (.there (.here)))))))) | exact .there (.there (.there (.there (.there (.there (.there (.there (.there (.here))))))))) | exact .there (.there (.there (.there (.there (.there (.there (.there (.there (.there (.here)))))))))) | exact .there (.there (.there (.there (.there (.there (.there (.there (.there (.there (.there (.here))))))))))) | exact .there (.there (.there (.there (.there (.there (.there (.there (.there (.there (.there (.there (.here)))))))))))))).asV
      refine ⟨hT.old, ?_⟩
      have hS := hS1.merge hT
      try simp only [List.cons_append, List.nil_append] at hS
      refine ML.look rfl rfl rfl (fun w hw => (by have hS := hS1.bel hw; exact opW.buildE (r := ((⟨cost, space, s25⟩ : Added) : Added)) (ps := Added.parts ((⟨cost, space, s25⟩ : Added) : Added)) (Added.enc_eq _) (by first | rfl | (simp only [kK, enc_vset, enc_vz, Limits.enc_eq, Limits.parts, Asked.enc_eq, Asked.parts, TrS.enc_eq, TrS.parts, Added.enc_eq, Added.parts, RfS.enc_eq, RfS.parts]; rfl)) (by (repeat' (first | exact trivial | refine And.intro ?_ ?_)) <;> first | rfl | exact Enc.size_eq _ | (simp; done)) ⟨rfl, rfl⟩)) ?_
      refine ML.one rfl rfl rfl (opW.buildSl hT (([⟨cost, space, s25⟩] : List Added)) [.agg (Enc.enc (⟨cost, space, s25⟩ : Added))] rfl rfl rfl rfl (by decide) ?_)
      intro b27 w hw hT
      refine ⟨hT.old, ?_⟩
      have hS := hS1.merge hT
      try simp only [List.cons_append, List.nil_append] at hS
      refine ML.put1 rfl rfl rfl rfl (opW.appendOwn (α := Added) rfl hS rfl (by first | exact .here | exact .there (.here) | exact .there (.there (.here)) | exact .there (.there (.there (.here))) | exact .there (.there (.there (.there (.here)))) | exact .there (.there (.there (.there (.there (.here))))) | exact .there (.there (.there (.there (.there (.there (.here)))))) | exact .there (.there (.there (.there (.there (.there (.there (.here))))))) | exact .there (.there (.there (.there (.there (.there (.there (.there (.here)))))))) | exact .there (.there (.there (.there (.there (.there (.there (.there (.there (.here))))))))) | exact .there (.there (.there (.there (.there (.there (.there (.there (.there (.there (.here)))))))))) | exact .there (.there (.there (.there (.there (.there (.there (.there (.there (.there (.there (.here))))))))))) | exact .there (.there (.there (.there (.there (.there (.there (.there (.there (.there (.there (.there (.here))))))))))))) (hS.sl (by first | exact .here | exact .there (.here) | exact .there (.there (.here)) | exact .there (.there (.there (.here))) | exact .there (.there (.there (.there (.here)))) | exact .there (.there (.there (.there (.there (.here))))) | exact .there (.there (.there (.there (.there (.there (.here)))))) | exact .there (.there (.there (.there (.there (.there (.there (.here))))))) | exact .there (.there (.there (.there (.there (.there (.there (.there (.here)))))))) | exact .there (.there (.there (.there (.there (.there (.there (.there (.there (.here))))))))) | exact .there (.there (.there (.there (.there (.there (.there (.there (.there (.there (.here)))))))))) | exact .there (.there (.there (.there (.there (.there (.there (.there (.there (.there (.there (.here))))))))))) | exact .there (.there (.there (.there (.there (.there (.there (.there (.there (.there (.there (.there (.here)))))))))))))) (by simp only [List.length_cons, List.length_nil]; omega) (by simp only [maxLen, List.length_cons, List.length_nil]; omega) ?_)
      intro v28 w hS; replace hS := hS _ (by first | exact .here | exact .there (.here) | exact .there (.there (.here)) | exact .there (.there (.there (.here))) | exact .there (.there (.there (.there (.here)))) | exact .there (.there (.there (.there (.there (.here))))) | exact .there (.there (.there (.there (.there (.there (.here)))))) | exact .there (.there (.there (.there (.there (.there (.there (.here))))))) | exact .there (.there (.there (.there (.there (.there (.there (.there (.here)))))))) | exact .there (.there (.there (.there (.there (.there (.there (.there (.there (.here))))))))) | exact .there (.there (.there (.there (.there (.there (.there (.there (.there (.there (.here)))))))))) | exact .there (.there (.there (.there (.there (.there (.there (.there (.there (.there (.there (.here))))))))))) | exact .there (.there (.there (.there (.there (.there (.there (.there (.there (.there (.there (.there (.here)))))))))))))
      obtain ⟨s28, rfl⟩ := (hS.sl (v := v28) (xs := d.l.map Prod.fst ++ [⟨cost, space, s25⟩]) (by first | exact .here | exact .there (.here) | exact .there (.there (.here)) | exact .there (.there (.there (.here))) | exact .there (.there (.there (.there (.here)))) | exact .there (.there (.there (.there (.there (.here))))) | exact .there (.there (.there (.there (.there (.there (.here)))))) | exact .there (.there (.there (.there (.there (.there (.there (.here))))))) | exact .there (.there (.there (.there (.there (.there (.there (.there (.here)))))))) | exact .there (.there (.there (.there (.there (.there (.there (.there (.there (.here))))))))) | exact .there (.there (.there (.there (.there (.there (.there (.there (.there (.there (.here)))))))))) | exact .there (.there (.there (.there (.there (.there (.there (.there (.there (.there (.there (.here))))))))))) | exact .there (.there (.there (.there (.there (.there (.there (.there (.there (.there (.there (.there (.here)))))))))))))).asV
      refine ML.put1 rfl rfl rfl rfl (opW.nilCheckB rfl ?_)
      refine ML.put1 rfl rfl rfl rfl (opW.fieldAddrB rfl ?_)
      refine ML.put0 rfl rfl rfl (opW.storeF (v := s28.v) (sz := 1) (cs' := Enc.enc (RfS.mk d.lim s28)) hS rfl rfl (by first | exact .here | exact .there (.here) | exact .there (.there (.here)) | exact .there (.there (.there (.here))) | exact .there (.there (.there (.there (.here)))) | exact .there (.there (.there (.there (.there (.here))))) | exact .there (.there (.there (.there (.there (.there (.here)))))) | exact .there (.there (.there (.there (.there (.there (.there (.here))))))) | exact .there (.there (.there (.there (.there (.there (.there (.there (.here)))))))) | exact .there (.there (.there (.there (.there (.there (.there (.there (.there (.here))))))))) | exact .there (.there (.there (.there (.there (.there (.there (.there (.there (.there (.here)))))))))) | exact .there (.there (.there (.there (.there (.there (.there (.there (.there (.there (.there (.here))))))))))) | exact .there (.there (.there (.there (.there (.there (.there (.there (.there (.there (.there (.there (.here))))))))))))) rfl (by rw [Enc.size_eq]; decide) (Enc.one s28) (RfS.set_l (RfS.mk d.lim d.v) s28) ?_)
      intro w hS; replace hS := hS _ (by first | exact .here | exact .there (.here) | exact .there (.there (.here)) | exact .there (.there (.there (.here))) | exact .there (.there (.there (.there (.here)))) | exact .there (.there (.there (.there (.there (.here))))) | exact .there (.there (.there (.there (.there (.there (.here)))))) | exact .there (.there (.there (.there (.there (.there (.there (.here))))))) | exact .there (.there (.there (.there (.there (.there (.there (.there (.here)))))))) | exact .there (.there (.there (.there (.there (.there (.there (.there (.there (.here))))))))) | exact .there (.there (.there (.there (.there (.there (.there (.there (.there (.there (.here)))))))))) | exact .there (.there (.there (.there (.there (.there (.there (.there (.there (.there (.there (.here))))))))))) | exact .there (.there (.there (.there (.there (.there (.there (.there (.there (.there (.there (.there (.here)))))))))))))
      refine ML.nil ?_
      refine thenQ_n ?_
      first | exact ⟨d, ⟨rfl, trivial⟩, (fun h => absurd h (by simpa using hr0)), (fun _ => rfl), hS⟩ | exact ⟨(⟨d.lim, s28, d.l ++ [(⟨cost, space, s25⟩, keys)]⟩ : RfD), ⟨rfl, trivial⟩, (fun _ => ⟨rfl, _, rfl, rfl, rfl⟩), (fun h => absurd hz h), St.rfClose (⟨d.lim, s28, d.l ++ [(⟨cost, space, s25⟩, keys)]⟩ : RfD) (by have h9 : St wb (ownE s25.v 27 keys :: blkE p (Enc.enc (RfS.mk d.lim s28)) 53 :: ownE s28.v 57 (d.l.map Prod.fst ++ [⟨cost, space, s25⟩]) :: (kEs d.l ++ S)) w := hS.sub (by repeat (first | with_reducible exact List.nil_sublist _ | with_reducible exact List.Sublist.refl _ | with_reducible refine List.Sublist.cons₂ _ ?_ | with_reducible refine List.Sublist.cons _ ?_)); have h10 := h9.perm add_perm; simp only [List.map_append, List.map_cons, List.map_nil, kEs] at h10 ⊢; exact h10)⟩
    ·
      have hr0 := hc0
      try simp only [decide_eq_true_eq, decide_eq_false_iff_not, Bool.and_eq_true, Bool.or_eq_true, Bool.and_eq_false_iff, Bool.or_eq_false_iff, Bool.not_eq_true', Bool.not_eq_false', Int.not_lt, Int.not_le] at hc0
      refine WC.skip ?_
      refine thenQ_n ?_
      first | exact ⟨d, ⟨rfl, trivial⟩, (fun h => absurd h (by simpa using hr0)), (fun _ => rfl), hS⟩ | exact ⟨(⟨d.lim, s28, d.l ++ [(⟨cost, space, s25⟩, keys)]⟩ : RfD), ⟨rfl, trivial⟩, (fun _ => ⟨rfl, _, rfl, rfl, rfl⟩), (fun h => absurd hz h), St.rfClose (⟨d.lim, s28, d.l ++ [(⟨cost, space, s25⟩, keys)]⟩ : RfD) (by have h9 : St wb (ownE s25.v 27 keys :: blkE p (Enc.enc (RfS.mk d.lim s28)) 53 :: ownE s28.v 57 (d.l.map Prod.fst ++ [⟨cost, space, s25⟩]) :: (kEs d.l ++ S)) w := hS.sub (by repeat (first | with_reducible exact List.nil_sublist _ | with_reducible exact List.Sublist.refl _ | with_reducible refine List.Sublist.cons₂ _ ?_ | with_reducible refine List.Sublist.cons _ ?_)); have h10 := h9.perm add_perm; simp only [List.map_append, List.map_cons, List.map_nil, kEs] at h10 ⊢; exact h10)⟩
  ·
    rintro f w ⟨d', hfit, h1, h2, hS⟩
    refine WC.fits _ hfit (fun g => ?_)
    clear hfit
    refine WC.seq (fun K4 hK4 => ?_)
    refine WC.region ?_
    refine WL.op rfl (opW.moveI rfl ?_)
    refine WL.op rfl (opW.assignI rfl ?_)
    refine WL.nil ?_
    refine thenQ_n (hK4 _ _ ?_)
    refine WC.ret ?_
    refine bodyQ_ret (.tmpI rfl .nil) ?_
    exact ⟨d', rfl, h1, h2, hS⟩

end Go.Fer
