/- transactions, the same -/
import Derived.Test.YtmiacbnmifejdaaM
import Derived.Test.YtmiacbnmifejdaaPD
import Derived.Test.YtmiacbnmifejdaaO
set_option linter.all false
namespace Go.Fer
open Go Go.Proofs Go.RowKit

theorem same_s (w0 : World) (v u : Value) (xs ys : List (Vector UInt8 64)) (hx : SlR w0 v xs) (hy : SlR w0 u ys) : Ret Try.prog 48 #[v, u] w0 (fun r w' => r = .bool (decide (xs = ys)) ∧ Bel w0 w') := by
  refine Ret.enter (args := [v, u]) Try.func48 rfl Try.ntmps48 Try.results48 rfl ?_
  have hS := St.start w0
  refine WC.seq (fun K1 hK1 => ?_)
  refine WC.region ?_
  refine WL.op rfl (opW.assignB rfl ?_)
  refine WL.nil ?_
  refine thenQ_n (hK1 _ _ ?_)
  refine WC.seq (fun K2 hK2 => ?_)
  refine WC.seq (fun K3 hK3 => ?_)
  refine WC.region ?_
  refine WL.op rfl (opW.moveV (v := v) rfl ?_)
  refine WL.op rfl (opW.lenV rfl ((hx.bel hS.old)) ?_)
  refine WL.op rfl (opW.moveV (v := u) rfl ?_)
  refine WL.op rfl (opW.lenV rfl ((hy.bel hS.old)) ?_)
  refine WL.op rfl (opW.neq rfl rfl ?_)
  refine WL.nil ?_
  refine thenQ_n (hK3 _ _ ?_)
  refine WC.cond _ rfl (fun hc0 => ?_) (fun hc0 => ?_)
  ·
    have hr0 := hc0
    try simp only [decide_eq_true_eq, decide_eq_false_iff_not, Bool.and_eq_true, Bool.or_eq_true, Bool.and_eq_false_iff, Bool.or_eq_false_iff, Bool.not_eq_true', Bool.not_eq_false', Int.not_lt, Int.not_le] at hc0
    refine WC.seq (fun K4 hK4 => ?_)
    refine WC.region ?_
    refine WL.op rfl (opW.assignB rfl ?_)
    refine WL.nil ?_
    refine thenQ_n (hK4 _ _ ?_)
    refine WC.ret ?_
    refine thenQ_r ?_
    refine bodyQ_ret (.tmpB rfl .nil) ?_
    refine ⟨?_, hS.old⟩
    rw [decide_eq_false (fun e => hc0 (by rw [e]))]
    rfl
  ·
    have hr0 := hc0
    try simp only [decide_eq_true_eq, decide_eq_false_iff_not, Bool.and_eq_true, Bool.or_eq_true, Bool.and_eq_false_iff, Bool.or_eq_false_iff, Bool.not_eq_true', Bool.not_eq_false', Int.not_lt, Int.not_le] at hc0
    have hlen : xs.length = ys.length := by omega
    refine WC.skip ?_
    refine thenQ_n (hK2 _ _ ?_)
    refine WC.seq (fun K5 hK5 => ?_)
    refine WC.seq (fun K6 hK6 => ?_)
    refine WC.region ?_
    refine WL.op rfl (opW.assignI rfl ?_)
    refine WL.nil ?_
    refine thenQ_n (hK6 _ _ ?_)
    refine WC.block ?_
    refine WC.loop (fun m f w => ∃ k : Nat, Fits [(0, v), (1, u), (5, .int .i64 (k : Int))] f ∧ St w0 [] w ∧ xs.take k = ys.take k ∧ m = xs.length - k) (xs.length) ?_ ?_
    ·
      exact ⟨0, ⟨rfl, rfl, rfl, trivial⟩, hS, rfl, rfl⟩
    ·
      rintro m f w ⟨k, hfit, hS, ht, hm⟩
      refine WC.fits _ hfit (fun g => ?_)
      clear hfit
      refine WC.seq (fun K7 hK7 => ?_)
      refine WC.seq (fun K8 hK8 => ?_)
      refine WC.region ?_
      refine WL.op rfl (opW.moveI rfl ?_)
      refine WL.op rfl (opW.moveV (v := v) rfl ?_)
      refine WL.op rfl (opW.lenV rfl ((hx.bel hS.old)) ?_)
      refine WL.op rfl (opW.lss rfl rfl ?_)
      refine WL.nil ?_
      refine thenQ_n (hK8 _ _ ?_)
      refine WC.cond _ rfl (fun hc1 => ?_) (fun hc1 => ?_)
      ·
        have hr1 := hc1
        try simp only [decide_eq_true_eq, decide_eq_false_iff_not, Bool.and_eq_true, Bool.or_eq_true, Bool.and_eq_false_iff, Bool.or_eq_false_iff, Bool.not_eq_true', Bool.not_eq_false', Int.not_lt, Int.not_le] at hc1
        have hk1 : k < xs.length := by omega
        have hk2 : k < ys.length := by omega
        have hle := hx.le
        simp only [maxLen] at hle
        refine WC.skip ?_
        refine thenQ_n (hK7 _ _ ?_)
        refine WC.seq (fun K9 hK9 => ?_)
        refine WC.block ?_
        refine WC.seq (fun K10 hK10 => ?_)
        refine WC.draw 9 (.look 0 (.look 1 (.look 2 (.look 3 (.look 4 (.look 5 (.look 6 (.look 7 (.look 8 .nil))))))))) (by kernel_rfl) (fun _ _ _ h => h) (fun w1 hw1 => ?_)
        replace hS := hS.bel hw1
        have hS1 := hS
        have hT := St.start w1
        refine ML.look rfl rfl rfl (fun w hw => (by have hS := hS1.bel hw; exact opW.moveV (v := v) rfl ⟨rfl, rfl⟩)) ?_
        refine ML.look rfl rfl rfl (fun w hw => (by have hS := hS1.bel hw; exact opW.moveI rfl ⟨rfl, rfl⟩)) ?_
        refine ML.look rfl rfl rfl (fun w hw => (by have hS := hS1.bel hw; exact opW.idxV rfl ((hx.bel hS.old)) rfl (by omega) ⟨rfl, rfl⟩)) ?_
        refine ML.look rfl rfl rfl (fun w hw => (by have hS := hS1.bel hw; exact opW.loadV rfl ((((hx.bel hS.old).isPt hk1).ldA (Enc.size_eq _))) ⟨rfl, rfl⟩)) ?_
        refine ML.look rfl rfl rfl (fun w hw => (by have hS := hS1.bel hw; exact opW.moveV (v := u) rfl ⟨rfl, rfl⟩)) ?_
        refine ML.look rfl rfl rfl (fun w hw => (by have hS := hS1.bel hw; exact opW.moveI rfl ⟨rfl, rfl⟩)) ?_
        refine ML.look rfl rfl rfl (fun w hw => (by have hS := hS1.bel hw; exact opW.idxV rfl ((hy.bel hS.old)) rfl (by omega) ⟨rfl, rfl⟩)) ?_
        refine ML.look rfl rfl rfl (fun w hw => (by have hS := hS1.bel hw; exact opW.loadV rfl ((((hy.bel hS.old).isPt hk2).ldA (Enc.size_eq _))) ⟨rfl, rfl⟩)) ?_
        refine ML.look rfl rfl rfl (fun w hw => (by have hS := hS1.bel hw; exact opW.neqE rfl rfl ⟨rfl, rfl⟩)) ?_
        refine ML.nil ?_
        refine thenQ_n (hK10 _ _ ?_)
        refine WC.cond _ rfl (fun hc2 => ?_) (fun hc2 => ?_)
        ·
          have hr2 := hc2
          try simp only [decide_eq_true_eq, decide_eq_false_iff_not, Bool.and_eq_true, Bool.or_eq_true, Bool.and_eq_false_iff, Bool.or_eq_false_iff, Bool.not_eq_true', Bool.not_eq_false', Int.not_lt, Int.not_le] at hc2
          refine WC.seq (fun K11 hK11 => ?_)
          refine WC.region ?_
          refine WL.op rfl (opW.assignB rfl ?_)
          refine WL.nil ?_
          refine thenQ_n (hK11 _ _ ?_)
          refine WC.ret ?_
          refine blockQ_r ?_
          refine thenQ_r ?_
          refine thenQ_r ?_
          refine blockQ_r ?_
          refine thenQ_r ?_
          refine bodyQ_ret (.tmpB rfl .nil) ?_
          refine ⟨?_, hS.old⟩
          rw [decide_eq_false (get_ne hk1 hk2 (hc2))]
          rfl
        ·
          have hr2 := hc2
          try simp only [decide_eq_true_eq, decide_eq_false_iff_not, Bool.and_eq_true, Bool.or_eq_true, Bool.and_eq_false_iff, Bool.or_eq_false_iff, Bool.not_eq_true', Bool.not_eq_false', Int.not_lt, Int.not_le] at hc2
          refine WC.skip ?_
          refine blockQ_n ?_
          refine thenQ_n (hK9 _ _ ?_)
          refine WC.region ?_
          refine WL.op rfl (opW.moveI rfl ?_)
          refine WL.op rfl (opW.add rfl rfl (wrap_i64 (by omega)) ?_)
          refine WL.op rfl (opW.assignI rfl ?_)
          refine WL.nil ?_
          refine thenQ_n ?_
          refine ⟨xs.length - (k + 1), by omega, k + 1, ⟨rfl, rfl, congrArg (Value.int .i64) (by omega), trivial⟩, hS, take_succ_eq ht hk1 hk2 (hc2), rfl⟩
      ·
        have hr1 := hc1
        try simp only [decide_eq_true_eq, decide_eq_false_iff_not, Bool.and_eq_true, Bool.or_eq_true, Bool.and_eq_false_iff, Bool.or_eq_false_iff, Bool.not_eq_true', Bool.not_eq_false', Int.not_lt, Int.not_le] at hc1
        refine WC.exit ?_
        refine thenQ_e ?_
        refine thenQ_e ?_
        refine blockQ_hit ?_
        refine thenQ_n (hK5 _ _ ?_)
        refine WC.seq (fun K12 hK12 => ?_)
        refine WC.region ?_
        refine WL.op rfl (opW.assignB rfl ?_)
        refine WL.nil ?_
        refine thenQ_n (hK12 _ _ ?_)
        refine WC.ret ?_
        refine bodyQ_ret (.tmpB rfl .nil) ?_
        refine ⟨?_, hS.old⟩
        rw [decide_eq_true (take_all_eq hlen ht (by omega))]
        rfl

@[irreducible] def markS : Vector UInt8 64 := ((vz 64).set 0 165).set 1 90

theorem great4_ok (w0 : World) (t : Tx) (x : TC) (ins : List Instr) (lks : List Lookup) (hx : IsT w0 t x ins lks) (hbd : (x.m.keys.length ≤ 140737488351232 ∧ ins.length ≤ 140737488351232 ∧ lks.length ≤ 140737488351232 ∧ (∀ i (h : i < x.m.ins.length), x.m.ins[i].2.1.length ≤ 140737488351232 ∧ x.m.ins[i].2.2.length ≤ 140737488351232) ∧ (∀ i (h : i < x.m.lks.length), x.m.lks[i].2.1.length ≤ 140737488351232 ∧ x.m.lks[i].2.2.length ≤ 140737488351232))) : Ret Try.prog 8 #[.agg (Enc.enc t)] w0 (fun u w' => ∃ b, u = .bool b ∧ (b = false → x.sigs.length ≤ 100 ∧ x.m.size < 3000) ∧ Bel w0 w') := by
  refine Ret.enter (args := [.agg (Enc.enc t)]) Try.func8 rfl Try.ntmps8 Try.results8 rfl ?_
  have hS := St.start w0
  obtain ⟨h1, h2, h3, h4, h5⟩ := hbd
  refine WC.seq (fun K1 hK1 => ?_)
  refine WC.region ?_
  refine WL.op rfl (opW.boxA hS rfl ?_)
  intro b1 w _ hS
  refine WL.op rfl (opW.assignB rfl ?_)
  refine WL.nil ?_
  refine thenQ_n (hK1 _ _ ?_)
  refine WC.seq (fun K2 hK2 => ?_)
  refine WC.region ?_
  refine WL.op rfl (opW.fieldAddrB rfl ?_)
  refine WL.op rfl (opW.loadV rfl (hS.ld1 (by first | exact .h0 | exact .h1 | exact .h2 | exact .h3 | exact .h4 | exact .h5 | exact .h6 | exact .h7 | exact .h8 | exact .h9 | exact .h10 | exact .h11 | exact .h12 | exact .h13 | exact .h14) (Tx.at_sigs t)) ?_)
  refine WL.op rfl (opW.lenV rfl ((hx.1.bel hS.old)) ?_)
  refine WL.op rfl (opW.gtr rfl rfl ?_)
  refine WL.op rfl (opW.moveB rfl ?_)
  cases hcs7 : (decide (100 < (x.sigs.length : Int))) with
  | true =>
    refine WL.gF 7 rfl rfl rfl rfl ?_
    refine WL.gF 7 rfl rfl rfl rfl ?_
    refine WL.gF 7 rfl rfl rfl rfl ?_
    refine WL.op rfl (opW.pickT rfl rfl ?_)
    refine WL.op rfl (opW.assignB rfl ?_)
    refine WL.nil ?_
    refine thenQ_n (hK2 _ _ ?_)
    refine WC.ret ?_
    refine bodyQ_ret (.tmpB rfl .nil) ?_
    exact ⟨true, rfl, (fun h => by cases h), hS.old⟩
  | false =>
    refine WL.gT 7 rfl rfl rfl (WL.op rfl (opW.fieldAddrB rfl ?_))
    refine WL.gT 7 rfl rfl rfl (WL.op rfl (opW.loadV rfl (hS.ldF (by first | exact .h0 | exact .h1 | exact .h2 | exact .h3 | exact .h4 | exact .h5 | exact .h6 | exact .h7 | exact .h8 | exact .h9 | exact .h10 | exact .h11 | exact .h12 | exact .h13 | exact .h14) (Tx.ex_m t) (by rw [Enc.size_eq]; decide)) ?_))
    refine WL.gT 7 rfl rfl rfl (WL.op rfl (opW.call (great_ok _ t.m x.m ins lks (hx.2.bel hS.old) h1 h2 h3 h4 h5) rfl ?_))
    rintro _ w ⟨bb, rfl, hbb, hw⟩; replace hS := hS.bel hw
    refine WL.op rfl (opW.pickT rfl rfl ?_)
    refine WL.op rfl (opW.assignB rfl ?_)
    refine WL.nil ?_
    refine thenQ_n (hK2 _ _ ?_)
    refine WC.ret ?_
    refine bodyQ_ret (.tmpB rfl .nil) ?_
    exact ⟨bb, rfl, (fun h => ⟨by have := of_decide_eq_false hcs7; omega, hbb h⟩), hS.old⟩

theorem sameTx_ok (w0 : World) (a b : Tx) (xa xb : TC) (insA insB : List Instr) (lksA lksB : List Lookup) (hA : IsT w0 a xa insA lksA) (hB : IsT w0 b xb insB lksB) : Ret Try.prog 23 #[.agg (Enc.enc a), .agg (Enc.enc b)] w0 (fun r w' => r = .bool (decide (xa = xb)) ∧ Bel w0 w') := by
  refine Ret.enter (args := [.agg (Enc.enc a), .agg (Enc.enc b)]) Try.func23 rfl Try.ntmps23 Try.results23 rfl ?_
  have hS := St.start w0
  refine WC.seq (fun K1 hK1 => ?_)
  refine WC.region ?_
  refine WL.op rfl (opW.boxA hS rfl ?_)
  intro b2 w _ hS
  refine WL.op rfl (opW.boxA hS rfl ?_)
  intro b3 w _ hS
  refine WL.op rfl (opW.assignB rfl ?_)
  refine WL.nil ?_
  refine thenQ_n (hK1 _ _ ?_)
  refine WC.seq (fun K2 hK2 => ?_)
  refine WC.region ?_
  refine WL.op rfl (opW.fieldAddrB rfl ?_)
  refine WL.op rfl (opW.loadV rfl (hS.ld1 (cs := Enc.enc a) (by first | exact .h0 | exact .h1 | exact .h2 | exact .h3 | exact .h4 | exact .h5 | exact .h6 | exact .h7 | exact .h8 | exact .h9 | exact .h10 | exact .h11 | exact .h12 | exact .h13 | exact .h14) (Tx.at_sigs a)) ?_)
  refine WL.op rfl (opW.fieldAddrB rfl ?_)
  refine WL.op rfl (opW.loadV rfl (hS.ld1 (cs := Enc.enc b) (by first | exact .h0 | exact .h1 | exact .h2 | exact .h3 | exact .h4 | exact .h5 | exact .h6 | exact .h7 | exact .h8 | exact .h9 | exact .h10 | exact .h11 | exact .h12 | exact .h13 | exact .h14) (Tx.at_sigs b)) ?_)
  refine WL.op rfl (opW.call (same_s _ _ _ _ _ (hA.1.bel hS.old) (hB.1.bel hS.old)) rfl ?_)
  rintro _ w ⟨rfl, hw⟩; replace hS := hS.bel hw
  refine WL.op rfl (opW.moveB rfl ?_)
  refine WL.gd _ 10 _ rfl rfl rfl rfl (fun hg11 => opW.fieldAddrB rfl ⟨rfl, Bel.refl _⟩) (fun w hw => ?_)
  replace hS := hS.bel hw
  refine WL.gd _ 10 (.agg (Enc.enc a.m)) rfl rfl rfl rfl (fun hg12 => ?_) (fun w hw => ?_)
  · refine opW.loadV (by first | exact gv_of rfl hg12 | rfl) (hS.ldF (cs := Enc.enc a) (by first | exact .h0 | exact .h1 | exact .h2 | exact .h3 | exact .h4 | exact .h5 | exact .h6 | exact .h7 | exact .h8 | exact .h9 | exact .h10 | exact .h11 | exact .h12 | exact .h13 | exact .h14) (Tx.ex_m a) (by rw [Enc.size_eq]; decide)) ⟨rfl, Bel.refl _⟩
  replace hS := hS.bel hw
  refine WL.gd _ 10 _ rfl rfl rfl rfl (fun hg13 => opW.fieldAddrB rfl ⟨rfl, Bel.refl _⟩) (fun w hw => ?_)
  replace hS := hS.bel hw
  refine WL.gd _ 10 (.agg (Enc.enc b.m)) rfl rfl rfl rfl (fun hg14 => ?_) (fun w hw => ?_)
  · refine opW.loadV (by first | exact gv_of rfl hg14 | rfl) (hS.ldF (cs := Enc.enc b) (by first | exact .h0 | exact .h1 | exact .h2 | exact .h3 | exact .h4 | exact .h5 | exact .h6 | exact .h7 | exact .h8 | exact .h9 | exact .h10 | exact .h11 | exact .h12 | exact .h13 | exact .h14) (Tx.ex_m b) (by rw [Enc.size_eq]; decide)) ⟨rfl, Bel.refl _⟩
  replace hS := hS.bel hw
  refine WL.gd _ 10 (.bool (decide (xa.m = xb.m))) rfl rfl rfl rfl (fun hg15 => ?_) (fun w hw => ?_)
  · refine opW.call (sameMsg_ok _ a.m b.m xa.m xb.m insA insB lksA lksB (hA.2.bel hS.old) (hB.2.bel hS.old)) (args2 (by first | exact gv_of rfl hg15 | rfl) (by first | exact gv_of rfl hg15 | rfl)) ?_
    rintro v w ⟨rfl, hw⟩; replace hS := hS.bel hw
    exact ⟨rfl, ‹_›⟩
  replace hS := hS.bel hw
  refine WL.op rfl (opW.pickAnd rfl (by first | rfl) rfl ?_)
  refine WL.op rfl (opW.assignB rfl ?_)
  refine WL.nil ?_
  refine thenQ_n (hK2 _ _ ?_)
  refine WC.ret ?_
  refine bodyQ_ret (.tmpB rfl .nil) ?_
  refine ⟨congrArg Value.bool ?_, hS.old⟩
  rw [Bool.eq_iff_iff]
  simp only [Bool.and_eq_true, decide_eq_true_eq]
  cases xa; cases xb
  simp only [TC.mk.injEq]

end Go.Fer
