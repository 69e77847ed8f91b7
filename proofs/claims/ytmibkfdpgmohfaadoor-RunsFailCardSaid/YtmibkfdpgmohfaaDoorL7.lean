/- RunsFail -/
import Derived.Test.YtmibkfdpgmohfaaDoorL6
set_option linter.all false
namespace Go.Fer
open Go Go.Proofs Go.RowKit

set_option maxRecDepth 20000 in
set_option maxHeartbeats 2000000 in
theorem fail_law (w0 : World) (R : Ready) (sl : SlV) (l : List Account) (hR0 : R.okz w0) (hl : SlR w0 sl.v l) (hlw : ∀ y ∈ l, okW y) (hg : ErrLaid w0) : Ret Tryd.prog 4 #[.agg (Enc.enc R), sl.v] w0 (fun r w' => r = .bool true ∧ Bel w0 w') := by
  refine Ret.enter (args := [.agg (Enc.enc R), sl.v]) Tryd.func4 rfl Tryd.ntmps4 Tryd.results4 rfl ?_
  have hS := St.start w0
  obtain ⟨bs, sg, ks, ins, lks, r, hR⟩ := hR0.is
  obtain ⟨qs, hql, hin⟩ := qs_of hR.oi
  refine WC.seq (fun K1 hK1 => ?_)
  refine WC.region ?_
  refine WL.op rfl (opW.boxA hS rfl ?_)
  intro b2 w _ hS
  refine WL.op rfl (opW.assignB rfl ?_)
  refine WL.nil ?_
  refine thenQ_n (hK1 _ _ ?_)
  refine WC.seq (fun K2 hK2 => ?_)
  refine WC.seq (fun K3 hK3 => ?_)
  refine WC.region ?_
  refine WL.op rfl (opW.moveV (v := sl.v) rfl ?_)
  refine WL.op rfl (opW.lenV rfl ((hl.bel hS.old)) ?_)
  refine WL.op rfl (opW.gtr rfl rfl ?_)
  refine WL.op rfl (opW.moveB rfl ?_)
  cases hcs12 : (decide ((300 : Int) < (l.length : Int))) with
  | true =>
    refine WL.gF 12 rfl rfl rfl rfl ?_
    refine WL.gF 12 rfl rfl rfl rfl ?_
    refine WL.op rfl (opW.pickT rfl rfl ?_)
    refine WL.nil ?_
    refine thenQ_n (hK3 _ _ ?_)
    refine WC.cond _ rfl (fun hc0 => ?_) (fun hc0 => ?_)
    ·
      have hr0 := hc0
      try simp only [decide_eq_true_eq, decide_eq_false_iff_not, Bool.and_eq_true, Bool.or_eq_true, Bool.and_eq_false_iff, Bool.or_eq_false_iff, Bool.not_eq_true', Bool.not_eq_false', Int.not_lt, Int.not_le] at hc0
      refine WC.seq (fun K4 hK4 => ?_)
      refine WC.region ?_
      refine WL.op rfl (opW.call (lives15 _ (hg.bel hS.old)) rfl ?_)
      rintro _ w ⟨rfl, hw⟩; replace hS := hS.bel hw
      refine WL.op rfl (opW.assignB rfl ?_)
      refine WL.nil ?_
      refine thenQ_n (hK4 _ _ ?_)
      refine WC.ret ?_
      refine thenQ_r ?_
      refine bodyQ_ret (.tmpB rfl .nil) ?_
      exact ⟨rfl, hS.old⟩
    ·
      have hr0 := hc0
      try simp only [decide_eq_true_eq, decide_eq_false_iff_not, Bool.and_eq_true, Bool.or_eq_true, Bool.and_eq_false_iff, Bool.or_eq_false_iff, Bool.not_eq_true', Bool.not_eq_false', Int.not_lt, Int.not_le] at hc0
      cases hr0
  | false =>
    refine WL.gT 12 rfl rfl rfl (WL.op rfl (opW.loadV rfl (hS.ldA (b := b2) (cs := Enc.enc R) (by first | exact .h0 | exact .h1 | exact .h2 | exact .h3 | exact .h4 | exact .h5 | exact .h6 | exact .h7 | exact .h8 | exact .h9 | exact .h10 | exact .h11 | exact .h12 | exact .h13 | exact .h14) (Enc.size_eq R)) ?_))
    refine WL.gT 12 rfl rfl rfl (WL.op rfl (opW.call (great15 _ R bs sg ks ins lks r (hR.bel hS.old)) rfl ?_))
    rintro _ w ⟨bb, rfl, hbb, hw⟩; replace hS := hS.bel hw
    refine WL.op rfl (opW.pickT rfl rfl ?_)
    refine WL.nil ?_
    refine thenQ_n (hK3 _ _ ?_)
    refine WC.cond _ rfl (fun hc0 => ?_) (fun hc0 => ?_)
    ·
      have hr0 := hc0
      try simp only [decide_eq_true_eq, decide_eq_false_iff_not, Bool.and_eq_true, Bool.or_eq_true, Bool.and_eq_false_iff, Bool.or_eq_false_iff, Bool.not_eq_true', Bool.not_eq_false', Int.not_lt, Int.not_le] at hc0
      refine WC.seq (fun K5 hK5 => ?_)
      refine WC.region ?_
      refine WL.op rfl (opW.call (lives15 _ (hg.bel hS.old)) rfl ?_)
      rintro _ w ⟨rfl, hw⟩; replace hS := hS.bel hw
      refine WL.op rfl (opW.assignB rfl ?_)
      refine WL.nil ?_
      refine thenQ_n (hK5 _ _ ?_)
      refine WC.ret ?_
      refine thenQ_r ?_
      refine bodyQ_ret (.tmpB rfl .nil) ?_
      exact ⟨rfl, hS.old⟩
    ·
      have hr0 := hc0
      try simp only [decide_eq_true_eq, decide_eq_false_iff_not, Bool.and_eq_true, Bool.or_eq_true, Bool.and_eq_false_iff, Bool.or_eq_false_iff, Bool.not_eq_true', Bool.not_eq_false', Int.not_lt, Int.not_le] at hc0
      have hsm := hbb hc0
      have hll : l.length ≤ 300 := by simp only [decide_eq_false_iff_not] at hcs12; omega
      have hil2 := hsm.i
      have hrl2 := hsm.r
      refine WC.skip ?_
      refine thenQ_n (hK2 _ _ ?_)
      refine WC.seq (fun K6 hK6 => ?_)
      refine WC.region ?_
      refine WL.op rfl (opW.loadV rfl (hS.ldA (b := b2) (cs := Enc.enc R) (by first | exact .h0 | exact .h1 | exact .h2 | exact .h3 | exact .h4 | exact .h5 | exact .h6 | exact .h7 | exact .h8 | exact .h9 | exact .h10 | exact .h11 | exact .h12 | exact .h13 | exact .h14) (Enc.size_eq R)) ?_)
      refine WL.op rfl (opW.moveV (v := sl.v) rfl ?_)
      refine WL.op rfl (opW.call (run_any _ R sl l r ins qs (hg.bel hS.old) (hl.bel hS.old) (hR.fr.bel hS.old) (hR.fi.bel hS.old) hql (fun k h h2 => (hin k h h2).bel hS.old) (by have := hR.bu; omega) (by omega) (by omega) hlw) rfl ?_)
      rintro _ w ⟨o, e, ch, rfl, hn20, hO, hw⟩; replace hS := hS.newOwn hw hn20.1 hn20.2
      refine WL.op rfl (opW.moveV (v := .tuple #[.agg (Enc.enc o), .int .i64 e]) rfl ?_)
      refine WL.op rfl (opW.extract rfl rfl ?_)
      refine WL.op rfl (opW.extract rfl rfl ?_)
      refine WL.op rfl (opW.allocA hS ?_)
      intro b5 w _ hS
      refine WL.op0 (opW.storeE hS rfl rfl (by first | exact .h0 | exact .h1 | exact .h2 | exact .h3 | exact .h4 | exact .h5 | exact .h6 | exact .h7 | exact .h8 | exact .h9 | exact .h10 | exact .h11 | exact .h12 | exact .h13 | exact .h14) (by first | rfl | exact Enc.size_eq _) ?_)
      intro w hS; replace hS := hS _ (by first | exact .h0 | exact .h1 | exact .h2 | exact .h3 | exact .h4 | exact .h5 | exact .h6 | exact .h7 | exact .h8 | exact .h9 | exact .h10 | exact .h11 | exact .h12 | exact .h13 | exact .h14)
      refine WL.op rfl (opW.assignI rfl ?_)
      refine WL.nil ?_
      refine thenQ_n (hK6 _ _ ?_)
      refine WC.seq (fun K7 hK7 => ?_)
      refine WC.seq (fun K8 hK8 => ?_)
      refine WC.region ?_
      refine WL.op rfl (opW.moveI rfl ?_)
      refine WL.op rfl (opW.neq rfl rfl ?_)
      refine WL.nil ?_
      refine thenQ_n (hK8 _ _ ?_)
      refine WC.cond _ rfl (fun hc1 => ?_) (fun hc1 => ?_)
      ·
        have hr1 := hc1
        try simp only [decide_eq_true_eq, decide_eq_false_iff_not, Bool.and_eq_true, Bool.or_eq_true, Bool.and_eq_false_iff, Bool.or_eq_false_iff, Bool.not_eq_true', Bool.not_eq_false', Int.not_lt, Int.not_le] at hc1
        obtain ⟨rfl, hbad, rfl, rfl⟩ := hO.bad (by simpa using hc1)
        refine WC.seq (fun K9 hK9 => ?_)
        refine WC.region ?_
        refine WL.op rfl (opW.moveI rfl ?_)
        refine WL.op rfl (opW.boolT (rfl) (opW.eql rfl rfl ⟨rfl, rfl⟩) ?_)
        refine WL.op rfl (opW.moveB rfl ?_)
        refine WL.gT 27 rfl rfl rfl (WL.op rfl (opW.fieldAddrB rfl ?_))
        refine WL.gT 27 rfl rfl rfl (WL.op rfl (opW.loadV rfl (hS.ld1 (b := b5) (cs := Enc.enc oz) (by first | exact .h0 | exact .h1 | exact .h2 | exact .h3 | exact .h4 | exact .h5 | exact .h6 | exact .h7 | exact .h8 | exact .h9 | exact .h10 | exact .h11 | exact .h12 | exact .h13 | exact .h14) (Outcome.at_fail oz)) ?_))
        refine WL.gT 27 rfl rfl rfl (WL.op rfl (opW.boolT (rfl) (opW.eql rfl rfl ⟨rfl, rfl⟩) ?_))
        refine WL.op rfl (opW.pickT rfl rfl ?_)
        refine WL.op rfl (opW.moveB rfl ?_)
        refine WL.gT 32 rfl rfl rfl (WL.op rfl (opW.fieldAddrB rfl ?_))
        refine WL.gT 32 rfl rfl rfl (WL.op rfl (opW.loadV rfl (hS.ld1 (b := b5) (cs := Enc.enc oz) (by first | exact .h0 | exact .h1 | exact .h2 | exact .h3 | exact .h4 | exact .h5 | exact .h6 | exact .h7 | exact .h8 | exact .h9 | exact .h10 | exact .h11 | exact .h12 | exact .h13 | exact .h14) (Outcome.at_changed oz)) ?_))
        refine WL.gT 32 rfl rfl rfl (WL.op rfl (opW.lenV rfl ((hS.sl (v := oz.changed.v) (xs := ([] : List Holding)) (by first | exact .h0 | exact .h1 | exact .h2 | exact .h3 | exact .h4 | exact .h5 | exact .h6 | exact .h7 | exact .h8 | exact .h9 | exact .h10 | exact .h11 | exact .h12 | exact .h13 | exact .h14))) ?_))
        refine WL.gT 32 rfl rfl rfl (WL.op rfl (opW.boolT (rfl) (opW.eql rfl rfl ⟨rfl, rfl⟩) ?_))
        refine WL.op rfl (opW.pickT rfl rfl ?_)
        refine WL.op rfl (opW.moveB rfl ?_)
        refine WL.gT 38 rfl rfl rfl (WL.op rfl (opW.call (lives15 _ (hg.bel hS.old)) rfl ?_))
        rintro _ w ⟨rfl, hw⟩; replace hS := hS.bel hw
        refine WL.op rfl (opW.pickT rfl rfl ?_)
        refine WL.op rfl (opW.assignB rfl ?_)
        refine WL.nil ?_
        refine thenQ_n (hK9 _ _ ?_)
        refine WC.ret ?_
        refine thenQ_r ?_
        refine bodyQ_ret (.tmpB rfl .nil) ?_
        exact ⟨rfl, hS.old⟩
      ·
        have hr1 := hc1
        try simp only [decide_eq_true_eq, decide_eq_false_iff_not, Bool.and_eq_true, Bool.or_eq_true, Bool.and_eq_false_iff, Bool.or_eq_false_iff, Bool.not_eq_true', Bool.not_eq_false', Int.not_lt, Int.not_le] at hc1
        obtain ⟨hbad, so, rfl, rfl⟩ := hO.good (by simpa using hc1)
        obtain ⟨hlen, hpr⟩ := badArg_no hbad
        have hzu := runZ_units R r qs l
        refine WC.skip ?_
        refine thenQ_n (hK7 _ _ ?_)
        refine WC.seq (fun K10 hK10 => ?_)
        refine WC.seq (fun K11 hK11 => ?_)
        refine WC.region ?_
        refine WL.op rfl (opW.fieldAddrB rfl ?_)
        refine WL.op rfl (opW.loadV rfl (hS.ld1 (b := b5) (cs := Enc.enc (outF R r qs l so)) (by first | exact .h0 | exact .h1 | exact .h2 | exact .h3 | exact .h4 | exact .h5 | exact .h6 | exact .h7 | exact .h8 | exact .h9 | exact .h10 | exact .h11 | exact .h12 | exact .h13 | exact .h14) (Outcome.at_fail (outF R r qs l so))) ?_)
        refine WL.op rfl (opW.eql rfl rfl ?_)
        refine WL.nil ?_
        refine thenQ_n (hK11 _ _ ?_)
        refine WC.cond _ rfl (fun hc2 => ?_) (fun hc2 => ?_)
        ·
          have hr2 := hc2
          try simp only [decide_eq_true_eq, decide_eq_false_iff_not, Bool.and_eq_true, Bool.or_eq_true, Bool.and_eq_false_iff, Bool.or_eq_false_iff, Bool.not_eq_true', Bool.not_eq_false', Int.not_lt, Int.not_le] at hc2
          have hf : (runZ R r qs l).1 = 0 := of_decide_eq_true hr2
          have hu := hzu.2.1 hf
          refine WC.seq (fun K12 hK12 => ?_)
          refine WC.region ?_
          refine WL.op rfl (opW.fieldAddrB rfl ?_)
          refine WL.op rfl (opW.loadV rfl (hS.ld1 (b := b5) (cs := Enc.enc (outF R r qs l so)) (by first | exact .h0 | exact .h1 | exact .h2 | exact .h3 | exact .h4 | exact .h5 | exact .h6 | exact .h7 | exact .h8 | exact .h9 | exact .h10 | exact .h11 | exact .h12 | exact .h13 | exact .h14) (Outcome.at_at_ (outF R r qs l so))) ?_)
          refine WL.op rfl (opW.boolT (decide_eq_true (show (outF R r qs l so).at_ = -1 from if_pos hf)) (opW.eql rfl rfl ⟨rfl, rfl⟩) ?_)
          refine WL.op rfl (opW.moveB rfl ?_)
          refine WL.gT 47 rfl rfl rfl (WL.op rfl (opW.fieldAddrB rfl ?_))
          refine WL.gT 47 rfl rfl rfl (WL.op rfl (opW.loadV rfl (hS.ld1 (b := b5) (cs := Enc.enc (outF R r qs l so)) (by first | exact .h0 | exact .h1 | exact .h2 | exact .h3 | exact .h4 | exact .h5 | exact .h6 | exact .h7 | exact .h8 | exact .h9 | exact .h10 | exact .h11 | exact .h12 | exact .h13 | exact .h14) (Outcome.at_units (outF R r qs l so))) ?_))
          refine WL.gT 47 rfl rfl rfl (WL.op rfl (opW.fieldAddrB rfl ?_))
          refine WL.gT 47 rfl rfl rfl (WL.op rfl (opW.fieldAddrB rfl ?_))
          refine WL.gT 47 rfl rfl rfl (WL.op rfl (opW.fieldAddrB rfl ?_))
          refine WL.gT 47 rfl rfl rfl (WL.op rfl (opW.loadV rfl (hS.ld1 (b := b2) (cs := Enc.enc R) (by first | exact .h0 | exact .h1 | exact .h2 | exact .h3 | exact .h4 | exact .h5 | exact .h6 | exact .h7 | exact .h8 | exact .h9 | exact .h10 | exact .h11 | exact .h12 | exact .h13 | exact .h14) (Ready.at_ins R)) ?_))
          refine WL.gT 47 rfl rfl rfl (WL.op rfl (opW.lenV rfl ((hR.fi.bel hS.old)) ?_))
          refine WL.gT 47 rfl rfl rfl (WL.op rfl (opW.conv rfl (wrap_u64 (by omega)) ?_))
          refine WL.gT 47 rfl rfl rfl (WL.op rfl (opW.mul rfl rfl ((show IntKind.u64.wrap (150 * (ins.length : Int)) = ((150 * ins.length : Nat) : Int) from (wrap_u64 (by omega)).trans (by omega))) ?_))
          refine WL.gT 47 rfl rfl rfl (WL.op rfl (opW.boolT (decide_eq_true (congrArg Int.ofNat (show (outF R r qs l so).units = 150 * ins.length from hql ▸ hu))) (opW.eql rfl rfl ⟨rfl, rfl⟩) ?_))
          refine WL.op rfl (opW.pickT rfl rfl ?_)
          refine WL.op rfl (opW.moveB rfl ?_)
          refine WL.gT 59 rfl rfl rfl (WL.op rfl (opW.fieldAddrB rfl ?_))
          refine WL.gT 59 rfl rfl rfl (WL.op rfl (opW.loadV rfl (hS.ld1 (b := b5) (cs := Enc.enc (outF R r qs l so)) (by first | exact .h0 | exact .h1 | exact .h2 | exact .h3 | exact .h4 | exact .h5 | exact .h6 | exact .h7 | exact .h8 | exact .h9 | exact .h10 | exact .h11 | exact .h12 | exact .h13 | exact .h14) (Outcome.at_units (outF R r qs l so))) ?_))
          refine WL.gT 59 rfl rfl rfl (WL.op rfl (opW.fieldAddrB rfl ?_))
          refine WL.gT 59 rfl rfl rfl (WL.op rfl (opW.fieldAddrB rfl ?_))
          refine WL.gT 59 rfl rfl rfl (WL.op rfl (opW.loadV rfl (hS.ld1 (b := b2) (cs := Enc.enc R) (by first | exact .h0 | exact .h1 | exact .h2 | exact .h3 | exact .h4 | exact .h5 | exact .h6 | exact .h7 | exact .h8 | exact .h9 | exact .h10 | exact .h11 | exact .h12 | exact .h13 | exact .h14) (Ready.at_budget_units R)) ?_))
          refine WL.gT 59 rfl rfl rfl (WL.op rfl (opW.boolT (decide_eq_true (Int.ofNat_le.2 (show (outF R r qs l so).units ≤ R.budget.units from hzu.1))) (opW.leq rfl rfl ⟨rfl, rfl⟩) ?_))
          refine WL.op rfl (opW.pickT rfl rfl ?_)
          refine WL.op rfl (opW.moveB rfl ?_)
          refine WL.gT 67 rfl rfl rfl (WL.op rfl (opW.call (lives15 _ (hg.bel hS.old)) rfl ?_))
          rintro _ w ⟨rfl, hw⟩; replace hS := hS.bel hw
          refine WL.op rfl (opW.pickT rfl rfl ?_)
          refine WL.op rfl (opW.assignB rfl ?_)
          refine WL.nil ?_
          refine thenQ_n (hK12 _ _ ?_)
          refine WC.ret ?_
          refine thenQ_r ?_
          refine bodyQ_ret (.tmpB rfl .nil) ?_
          exact ⟨rfl, hS.old⟩
        ·
          have hr2 := hc2
          try simp only [decide_eq_true_eq, decide_eq_false_iff_not, Bool.and_eq_true, Bool.or_eq_true, Bool.and_eq_false_iff, Bool.or_eq_false_iff, Bool.not_eq_true', Bool.not_eq_false', Int.not_lt, Int.not_le] at hc2
          have hf : (runZ R r qs l).1 ≠ 0 := of_decide_eq_false hr2
          have hat := hzu.2.2 hf
          have hac : accF R r qs l = l := if_neg hf
          rw [hac] at hS
          refine WC.skip ?_
          refine thenQ_n (hK10 _ _ ?_)
          refine WC.seq (fun K13 hK13 => ?_)
          refine WC.seq (fun K14 hK14 => ?_)
          refine WC.region ?_
          refine WL.op rfl (opW.fieldAddrB rfl ?_)
          refine WL.op rfl (opW.loadV rfl ((hS.ld1 (b := b5) (cs := Enc.enc (outF R r qs l so)) (by first | exact .h0 | exact .h1 | exact .h2 | exact .h3 | exact .h4 | exact .h5 | exact .h6 | exact .h7 | exact .h8 | exact .h9 | exact .h10 | exact .h11 | exact .h12 | exact .h13 | exact .h14) (Outcome.at_at_ (outF R r qs l so))).val (congrArg (Value.int .i64) (show (outF R r qs l so).at_ = ((runZ R r qs l).2.1 : Int) from if_neg hf))) ?_)
          refine WL.op rfl (opW.boolF (decide_eq_false (by omega)) (opW.lss rfl rfl ⟨rfl, rfl⟩) ?_)
          refine WL.op rfl (opW.moveB rfl ?_)
          refine WL.gT 73 rfl rfl rfl (WL.op rfl (opW.fieldAddrB rfl ?_))
          refine WL.gT 73 rfl rfl rfl (WL.op rfl (opW.loadV rfl ((hS.ld1 (b := b5) (cs := Enc.enc (outF R r qs l so)) (by first | exact .h0 | exact .h1 | exact .h2 | exact .h3 | exact .h4 | exact .h5 | exact .h6 | exact .h7 | exact .h8 | exact .h9 | exact .h10 | exact .h11 | exact .h12 | exact .h13 | exact .h14) (Outcome.at_at_ (outF R r qs l so))).val (congrArg (Value.int .i64) (show (outF R r qs l so).at_ = ((runZ R r qs l).2.1 : Int) from if_neg hf))) ?_))
          refine WL.gT 73 rfl rfl rfl (WL.op rfl (opW.fieldAddrB rfl ?_))
          refine WL.gT 73 rfl rfl rfl (WL.op rfl (opW.fieldAddrB rfl ?_))
          refine WL.gT 73 rfl rfl rfl (WL.op rfl (opW.fieldAddrB rfl ?_))
          refine WL.gT 73 rfl rfl rfl (WL.op rfl (opW.loadV rfl (hS.ld1 (b := b2) (cs := Enc.enc R) (by first | exact .h0 | exact .h1 | exact .h2 | exact .h3 | exact .h4 | exact .h5 | exact .h6 | exact .h7 | exact .h8 | exact .h9 | exact .h10 | exact .h11 | exact .h12 | exact .h13 | exact .h14) (Ready.at_ins R)) ?_))
          refine WL.gT 73 rfl rfl rfl (WL.op rfl (opW.lenV rfl ((hR.fi.bel hS.old)) ?_))
          refine WL.gT 73 rfl rfl rfl (WL.op rfl (opW.boolF (decide_eq_false (by omega)) (opW.geq rfl rfl ⟨rfl, rfl⟩) ?_))
          refine WL.op rfl (opW.pickT rfl rfl ?_)
          refine WL.op rfl (opW.moveB rfl ?_)
          refine WL.gT 83 rfl rfl rfl (WL.op rfl (opW.fieldAddrB rfl ?_))
          refine WL.gT 83 rfl rfl rfl (WL.op rfl (opW.loadV rfl ((hS.ld1 (b := b5) (cs := Enc.enc (outF R r qs l so)) (by first | exact .h0 | exact .h1 | exact .h2 | exact .h3 | exact .h4 | exact .h5 | exact .h6 | exact .h7 | exact .h8 | exact .h9 | exact .h10 | exact .h11 | exact .h12 | exact .h13 | exact .h14) (Outcome.at_space (outF R r qs l so))).val (congrArg (fun n : Nat => Value.int .u64 (n : Int)) (show (outF R r qs l so).space = 0 from if_neg hf))) ?_))
          refine WL.gT 83 rfl rfl rfl (WL.op rfl (opW.boolF (rfl) (opW.neq rfl rfl ⟨rfl, rfl⟩) ?_))
          refine WL.op rfl (opW.pickT rfl rfl ?_)
          refine WL.op rfl (opW.moveB rfl ?_)
          refine WL.gT 88 rfl rfl rfl (WL.op rfl (opW.fieldAddrB rfl ?_))
          refine WL.gT 88 rfl rfl rfl (WL.op rfl (opW.loadV rfl (hS.ld1 (b := b5) (cs := Enc.enc (outF R r qs l so)) (by first | exact .h0 | exact .h1 | exact .h2 | exact .h3 | exact .h4 | exact .h5 | exact .h6 | exact .h7 | exact .h8 | exact .h9 | exact .h10 | exact .h11 | exact .h12 | exact .h13 | exact .h14) (Outcome.at_units (outF R r qs l so))) ?_))
          refine WL.gT 88 rfl rfl rfl (WL.op rfl (opW.fieldAddrB rfl ?_))
          refine WL.gT 88 rfl rfl rfl (WL.op rfl (opW.fieldAddrB rfl ?_))
          refine WL.gT 88 rfl rfl rfl (WL.op rfl (opW.loadV rfl (hS.ld1 (b := b2) (cs := Enc.enc R) (by first | exact .h0 | exact .h1 | exact .h2 | exact .h3 | exact .h4 | exact .h5 | exact .h6 | exact .h7 | exact .h8 | exact .h9 | exact .h10 | exact .h11 | exact .h12 | exact .h13 | exact .h14) (Ready.at_budget_units R)) ?_))
          refine WL.gT 88 rfl rfl rfl (WL.op rfl (opW.boolF (decide_eq_false (by have : (outF R r qs l so).units ≤ R.budget.units := hzu.1; omega)) (opW.gtr rfl rfl ⟨rfl, rfl⟩) ?_))
          refine WL.op rfl (opW.pickT rfl rfl ?_)
          refine WL.op rfl (opW.moveB rfl ?_)
          refine WL.gT 96 rfl rfl rfl (WL.op rfl (opW.fieldAddrB rfl ?_))
          refine WL.gT 96 rfl rfl rfl (WL.op rfl (opW.loadV rfl (hS.ld1 (b := b5) (cs := Enc.enc (outF R r qs l so)) (by first | exact .h0 | exact .h1 | exact .h2 | exact .h3 | exact .h4 | exact .h5 | exact .h6 | exact .h7 | exact .h8 | exact .h9 | exact .h10 | exact .h11 | exact .h12 | exact .h13 | exact .h14) (Outcome.at_fee (outF R r qs l so))) ?_))
          refine WL.gT 96 rfl rfl rfl (WL.op rfl (opW.fieldAddrB rfl ?_))
          refine WL.gT 96 rfl rfl rfl (WL.op rfl (opW.loadV rfl (hS.ld1 (b := b2) (cs := Enc.enc R) (by first | exact .h0 | exact .h1 | exact .h2 | exact .h3 | exact .h4 | exact .h5 | exact .h6 | exact .h7 | exact .h8 | exact .h9 | exact .h10 | exact .h11 | exact .h12 | exact .h13 | exact .h14) (Ready.at_fee R)) ?_))
          refine WL.gT 96 rfl rfl rfl (WL.op rfl (opW.boolF (by show (!decide ((R.fee : Int) = (R.fee : Int))) = false; rw [decide_eq_true rfl]; rfl) (opW.neq rfl rfl ⟨rfl, rfl⟩) ?_))
          refine WL.op rfl (opW.pickT rfl rfl ?_)
          refine WL.nil ?_
          refine thenQ_n (hK14 _ _ ?_)
          refine WC.cond _ rfl (fun hc3 => ?_) (fun hc3 => ?_)
          ·
            have hr3 := hc3
            try simp only [decide_eq_true_eq, decide_eq_false_iff_not, Bool.and_eq_true, Bool.or_eq_true, Bool.and_eq_false_iff, Bool.or_eq_false_iff, Bool.not_eq_true', Bool.not_eq_false', Int.not_lt, Int.not_le] at hc3
            cases hr3
          ·
            have hr3 := hc3
            try simp only [decide_eq_true_eq, decide_eq_false_iff_not, Bool.and_eq_true, Bool.or_eq_true, Bool.and_eq_false_iff, Bool.or_eq_false_iff, Bool.not_eq_true', Bool.not_eq_false', Int.not_lt, Int.not_le] at hc3
            refine WC.skip ?_
            refine thenQ_n (hK13 _ _ ?_)
            refine WC.seq (fun K15 hK15 => ?_)
            refine WC.region ?_
            refine WL.op rfl (opW.assignI rfl ?_)
            refine WL.nil ?_
            refine thenQ_n (hK15 _ _ ?_)
            refine WC.seq (fun K16 hK16 => ?_)
            refine WC.seq (fun K17 hK17 => ?_)
            refine WC.region ?_
            refine WL.op rfl (opW.assignI rfl ?_)
            refine WL.nil ?_
            refine thenQ_n (hK17 _ _ ?_)
            refine WC.block ?_
            refine WC.loop (fun q f w => ∃ k : Nat, Fits [(1, sl.v), (2, .pointer (some ⟨b2, 0, none⟩)), (5, .pointer (some ⟨b5, 0, none⟩)), (7, .int .i64 ((chgF (r.take k) (l.take k)).length : Int)), (8, .int .i64 (k : Int))] f ∧ St w0 [blkE b5 (Enc.enc (outF R r qs l so)) 54, ownE (outF R r qs l so).changed.v 64 (chgF r l), blkE b2 (Enc.enc R) 41] w ∧ k ≤ r.length ∧ q = r.length - k) (r.length) ?_ ?_
            ·
              exact ⟨0, ⟨rfl, rfl, rfl, rfl, rfl, trivial⟩, hS.sub (by repeat (first | with_reducible exact List.nil_sublist _ | with_reducible exact List.Sublist.refl _ | with_reducible refine List.Sublist.cons₂ _ ?_ | with_reducible refine List.Sublist.cons _ ?_)), Nat.zero_le _, rfl⟩
            ·
              rintro q f w ⟨k, hfit, hS, hk0, hm⟩
              refine WC.fits _ hfit (fun g => ?_)
              clear hfit
              refine WC.seq (fun K18 hK18 => ?_)
              refine WC.seq (fun K19 hK19 => ?_)
              refine WC.region ?_
              refine WL.op rfl (opW.moveI rfl ?_)
              refine WL.op rfl (opW.fieldAddrB rfl ?_)
              refine WL.op rfl (opW.loadV rfl (hS.ld1 (b := b2) (cs := Enc.enc R) (by first | exact .h0 | exact .h1 | exact .h2 | exact .h3 | exact .h4 | exact .h5 | exact .h6 | exact .h7 | exact .h8 | exact .h9 | exact .h10 | exact .h11 | exact .h12 | exact .h13 | exact .h14) (Ready.at_roles R)) ?_)
              refine WL.op rfl (opW.lenV rfl ((hR.fr.bel hS.old)) ?_)
              refine WL.op rfl (opW.lss rfl rfl ?_)
              refine WL.nil ?_
              refine thenQ_n (hK19 _ _ ?_)
              refine WC.cond _ rfl (fun hc4 => ?_) (fun hc4 => ?_)
              ·
                have hr4 := hc4
                try simp only [decide_eq_true_eq, decide_eq_false_iff_not, Bool.and_eq_true, Bool.or_eq_true, Bool.and_eq_false_iff, Bool.or_eq_false_iff, Bool.not_eq_true', Bool.not_eq_false', Int.not_lt, Int.not_le] at hc4
                have hkr : k < r.length := by omega
                have hkl : k < l.length := by omega
                have hcl := chgF_len (r.take k) (l.take k)
                rw [List.length_take] at hcl
                refine WC.skip ?_
                refine thenQ_n (hK18 _ _ ?_)
                refine WC.seq (fun K20 hK20 => ?_)
                refine WC.block ?_
                refine WC.seq (fun K21 hK21 => ?_)
                refine WC.seq (fun K22 hK22 => ?_)
                refine WC.region ?_
                refine WL.op rfl (opW.fieldAddrB rfl ?_)
                refine WL.op rfl (opW.loadV rfl (hS.ld1 (b := b2) (cs := Enc.enc R) (by first | exact .h0 | exact .h1 | exact .h2 | exact .h3 | exact .h4 | exact .h5 | exact .h6 | exact .h7 | exact .h8 | exact .h9 | exact .h10 | exact .h11 | exact .h12 | exact .h13 | exact .h14) (Ready.at_roles R)) ?_)
                refine WL.op rfl (opW.moveI rfl ?_)
                refine WL.op rfl (opW.idxV rfl ((hR.fr.bel hS.old)) rfl (by omega) ?_)
                refine WL.op rfl (opW.fieldAddr rfl ((hR.fr.bel hS.old).isP hkr) ?_)
                refine WL.op rfl (opW.loadV rfl (Ld.pt1 ((hR.fr.bel hS.old).isPt hkr) 33 (Role.at_writes _)) ?_)
                refine WL.op rfl (opW.not rfl ?_)
                refine WL.nil ?_
                refine thenQ_n (hK22 _ _ ?_)
                refine WC.cond _ rfl (fun hc5 => ?_) (fun hc5 => ?_)
                ·
                  have hr5 := hc5
                  try simp only [decide_eq_true_eq, decide_eq_false_iff_not, Bool.and_eq_true, Bool.or_eq_true, Bool.and_eq_false_iff, Bool.or_eq_false_iff, Bool.not_eq_true', Bool.not_eq_false', Int.not_lt, Int.not_le] at hc5
                  have hwr : r[k].writes = false := by simpa using hc5
                  refine WC.exit ?_
                  refine thenQ_e ?_
                  refine blockQ_hit ?_
                  refine thenQ_n (hK20 _ _ ?_)
                  refine WC.region ?_
                  refine WL.op rfl (opW.moveI rfl ?_)
                  refine WL.op rfl (opW.add rfl rfl (wrap_i64 (by omega)) ?_)
                  refine WL.op rfl (opW.assignI rfl ?_)
                  refine WL.nil ?_
                  refine thenQ_n ?_
                  first
                    | (have hst := chgF_step (r := r) (l := l) hkr hkl
                       rw [if_neg (by rw [hwr]; decide), List.append_nil] at hst
                       exact ⟨r.length - (k + 1), by omega, k + 1, ⟨rfl, rfl, rfl, by rw [hst]; rfl, congrArg (Value.int .i64) (by omega), trivial⟩, hS.sub (by repeat (first | with_reducible exact List.nil_sublist _ | with_reducible exact List.Sublist.refl _ | with_reducible refine List.Sublist.cons₂ _ ?_ | with_reducible refine List.Sublist.cons _ ?_)), by omega, rfl⟩)
                    | (have hst := chgF_step (r := r) (l := l) hkr hkl
                       rw [if_pos hwr] at hst
                       have hst2 : (chgF (r.take (k + 1)) (l.take (k + 1))).length = (chgF (r.take k) (l.take k)).length + 1 := by rw [hst]; simp
                       exact ⟨r.length - (k + 1), by omega, k + 1, ⟨rfl, rfl, rfl, congrArg (Value.int .i64) (by rw [hst2]; omega), congrArg (Value.int .i64) (by omega), trivial⟩, hS.sub (by repeat (first | with_reducible exact List.nil_sublist _ | with_reducible exact List.Sublist.refl _ | with_reducible refine List.Sublist.cons₂ _ ?_ | with_reducible refine List.Sublist.cons _ ?_)), by omega, rfl⟩)
                ·
                  have hr5 := hc5
                  try simp only [decide_eq_true_eq, decide_eq_false_iff_not, Bool.and_eq_true, Bool.or_eq_true, Bool.and_eq_false_iff, Bool.or_eq_false_iff, Bool.not_eq_true', Bool.not_eq_false', Int.not_lt, Int.not_le] at hc5
                  have hwr : r[k].writes = true := by simpa using hc5
                  obtain ⟨hgl, hge⟩ := chgF_get hkr hkl hwr
                  refine WC.skip ?_
                  refine thenQ_n (hK21 _ _ ?_)
                  refine WC.seq (fun K23 hK23 => ?_)
                  refine WC.seq (fun K24 hK24 => ?_)
                  refine WC.draw 30 (.look 0 (.look 1 (.look 2 (.look 3 (.look 4 (.look 5 (.look 6 (.look 7 (.look 8 (.look 9 (.look 10 (.look 11 (.look 12 (.look 13 (.look 14 (.look 15 (.look 16 (.look 17 (.look 18 (.look 19 (.look 20 (.look 21 (.look 22 (.look 23 (.look 24 (.look 25 (.look 26 (.look 27 (.look 28 (.look 29 .nil)))))))))))))))))))))))))))))) (by kernel_rfl) (fun _ _ _ h => h) (fun w1 hw1 => ?_)
                  replace hS := hS.bel hw1
                  have hS1 := hS
                  have hT := St.start w1
                  refine ML.look rfl rfl rfl (fun w hw => (by have hS := hS1.bel hw; exact opW.moveI rfl ⟨rfl, rfl⟩)) ?_
                  refine ML.look rfl rfl rfl (fun w hw => (by have hS := hS1.bel hw; exact opW.fieldAddrB rfl ⟨rfl, rfl⟩)) ?_
                  refine ML.look rfl rfl rfl (fun w hw => (by have hS := hS1.bel hw; exact opW.loadV rfl (hS.ld1 (b := b5) (cs := Enc.enc (outF R r qs l so)) (by first | exact .h0 | exact .h1 | exact .h2 | exact .h3 | exact .h4 | exact .h5 | exact .h6 | exact .h7 | exact .h8 | exact .h9 | exact .h10 | exact .h11 | exact .h12 | exact .h13 | exact .h14) (Outcome.at_changed (outF R r qs l so))) ⟨rfl, rfl⟩)) ?_
                  refine ML.look rfl rfl rfl (fun w hw => (by have hS := hS1.bel hw; exact opW.lenV rfl ((hS.sl (v := (outF R r qs l so).changed.v) (xs := (chgF r l)) (by first | exact .h0 | exact .h1 | exact .h2 | exact .h3 | exact .h4 | exact .h5 | exact .h6 | exact .h7 | exact .h8 | exact .h9 | exact .h10 | exact .h11 | exact .h12 | exact .h13 | exact .h14))) ⟨rfl, rfl⟩)) ?_
                  refine ML.look rfl rfl rfl (fun w hw => (by have hS := hS1.bel hw; exact opW.boolF (decide_eq_false (by omega)) (opW.geq rfl rfl ⟨rfl, rfl⟩) ⟨rfl, rfl⟩)) ?_
                  refine ML.look rfl rfl rfl (fun w hw => (by have hS := hS1.bel hw; exact opW.moveB rfl ⟨rfl, rfl⟩)) ?_
                  refine ML.lookT 122 rfl rfl rfl rfl rfl rfl (fun w hw => (by have hS := hS1.bel hw; exact opW.moveI rfl ⟨rfl, rfl⟩)) ?_
                  refine ML.lookT 122 rfl rfl rfl rfl rfl rfl (fun w hw => (by have hS := hS1.bel hw; exact opW.moveV (v := sl.v) rfl ⟨rfl, rfl⟩)) ?_
                  refine ML.lookT 122 rfl rfl rfl rfl rfl rfl (fun w hw => (by have hS := hS1.bel hw; exact opW.lenV rfl ((hl.bel hS.old)) ⟨rfl, rfl⟩)) ?_
                  refine ML.lookT 122 rfl rfl rfl rfl rfl rfl (fun w hw => (by have hS := hS1.bel hw; exact opW.boolF (decide_eq_false (by omega)) (opW.geq rfl rfl ⟨rfl, rfl⟩) ⟨rfl, rfl⟩)) ?_
                  refine ML.look rfl rfl rfl (fun w hw => (by have hS := hS1.bel hw; exact opW.pickT rfl rfl ⟨rfl, rfl⟩)) ?_
                  refine ML.look rfl rfl rfl (fun w hw => (by have hS := hS1.bel hw; exact opW.moveB rfl ⟨rfl, rfl⟩)) ?_
                  refine ML.lookT 128 rfl rfl rfl rfl rfl rfl (fun w hw => (by have hS := hS1.bel hw; exact opW.fieldAddrB rfl ⟨rfl, rfl⟩)) ?_
                  refine ML.lookT 128 rfl rfl rfl rfl rfl rfl (fun w hw => (by have hS := hS1.bel hw; exact opW.loadV rfl (hS.ld1 (b := b5) (cs := Enc.enc (outF R r qs l so)) (by first | exact .h0 | exact .h1 | exact .h2 | exact .h3 | exact .h4 | exact .h5 | exact .h6 | exact .h7 | exact .h8 | exact .h9 | exact .h10 | exact .h11 | exact .h12 | exact .h13 | exact .h14) (Outcome.at_changed (outF R r qs l so))) ⟨rfl, rfl⟩)) ?_
                  refine ML.lookT 128 rfl rfl rfl rfl rfl rfl (fun w hw => (by have hS := hS1.bel hw; exact opW.moveI rfl ⟨rfl, rfl⟩)) ?_
                  refine ML.lookT 128 rfl rfl rfl rfl rfl rfl (fun w hw => (by have hS := hS1.bel hw; exact opW.idxV rfl ((hS.sl (v := (outF R r qs l so).changed.v) (xs := (chgF r l)) (by first | exact .h0 | exact .h1 | exact .h2 | exact .h3 | exact .h4 | exact .h5 | exact .h6 | exact .h7 | exact .h8 | exact .h9 | exact .h10 | exact .h11 | exact .h12 | exact .h13 | exact .h14))) rfl (by omega) ⟨rfl, rfl⟩)) ?_
                  refine ML.lookT 128 rfl rfl rfl rfl rfl rfl (fun w hw => (by have hS := hS1.bel hw; exact opW.loadV rfl ((show Ld _ _ _ _ (.agg (Enc.enc (⟨r[k].key, l[k]⟩ : Holding))) from by rw [← hge]; exact ((hS.sl (v := (outF R r qs l so).changed.v) (xs := (chgF r l)) (by first | exact .h0 | exact .h1 | exact .h2 | exact .h3 | exact .h4 | exact .h5 | exact .h6 | exact .h7 | exact .h8 | exact .h9 | exact .h10 | exact .h11 | exact .h12 | exact .h13 | exact .h14)).isPt hgl).ldA (Enc.size_eq _))) ⟨rfl, rfl⟩)) ?_
                  refine ML.lookT 128 rfl rfl rfl rfl rfl rfl (fun w hw => (by have hS := hS1.bel hw; exact opW.fieldAddrB rfl ⟨rfl, rfl⟩)) ?_
                  refine ML.lookT 128 rfl rfl rfl rfl rfl rfl (fun w hw => (by have hS := hS1.bel hw; exact opW.loadV rfl (hS.ld1 (b := b2) (cs := Enc.enc R) (by first | exact .h0 | exact .h1 | exact .h2 | exact .h3 | exact .h4 | exact .h5 | exact .h6 | exact .h7 | exact .h8 | exact .h9 | exact .h10 | exact .h11 | exact .h12 | exact .h13 | exact .h14) (Ready.at_roles R)) ⟨rfl, rfl⟩)) ?_
                  refine ML.lookT 128 rfl rfl rfl rfl rfl rfl (fun w hw => (by have hS := hS1.bel hw; exact opW.moveI rfl ⟨rfl, rfl⟩)) ?_
                  refine ML.lookT 128 rfl rfl rfl rfl rfl rfl (fun w hw => (by have hS := hS1.bel hw; exact opW.idxV rfl ((hR.fr.bel hS.old)) rfl (by omega) ⟨rfl, rfl⟩)) ?_
                  refine ML.lookT 128 rfl rfl rfl rfl rfl rfl (fun w hw => (by have hS := hS1.bel hw; exact opW.fieldAddr rfl ((hR.fr.bel hS.old).isP hkr) ⟨rfl, rfl⟩)) ?_
                  refine ML.lookT 128 rfl rfl rfl rfl rfl rfl (fun w hw => (by have hS := hS1.bel hw; exact opW.loadV rfl (Ld.ptA ((hR.fr.bel hS.old).isPt hkr) 0 (Role.ex_key _) (by rw [Enc.size_eq]; decide)) ⟨rfl, rfl⟩)) ?_
                  refine ML.lookT 128 rfl rfl rfl rfl rfl rfl (fun w hw => (by have hS := hS1.bel hw; exact opW.moveV (v := sl.v) rfl ⟨rfl, rfl⟩)) ?_
                  refine ML.lookT 128 rfl rfl rfl rfl rfl rfl (fun w hw => (by have hS := hS1.bel hw; exact opW.moveI rfl ⟨rfl, rfl⟩)) ?_
                  refine ML.lookT 128 rfl rfl rfl rfl rfl rfl (fun w hw => (by have hS := hS1.bel hw; exact opW.idxV rfl ((hl.bel hS.old)) rfl (by omega) ⟨rfl, rfl⟩)) ?_
                  refine ML.lookT 128 rfl rfl rfl rfl rfl rfl (fun w hw => (by have hS := hS1.bel hw; exact opW.loadV rfl (((hl.bel hS.old).isPt hkl).ldA (Enc.size_eq l[k])) ⟨rfl, rfl⟩)) ?_
                  refine ML.lookT 128 rfl rfl rfl rfl rfl rfl (fun w hw => (by have hS := hS1.bel hw; exact opW.buildE (r := (⟨r[k].key, l[k]⟩ : Holding)) (ps := Holding.parts (⟨r[k].key, l[k]⟩ : Holding)) (Holding.enc_eq _) (by exact rfl) (by exact fitO ⟨by decide, Enc.size_eq r[k].key, by decide, Enc.size_eq l[k], trivial⟩) ⟨rfl, rfl⟩)) ?_
                  refine ML.lookT 128 rfl rfl rfl rfl rfl rfl (fun w hw => (by have hS := hS1.bel hw; exact opW.boolF (by rw [decide_eq_true rfl]; rfl) (opW.neqE rfl rfl ⟨rfl, rfl⟩) ⟨rfl, rfl⟩)) ?_
                  refine ML.look rfl rfl rfl (fun w hw => (by have hS := hS1.bel hw; exact opW.pickT rfl rfl ⟨rfl, rfl⟩)) ?_
                  refine ML.nil ?_
                  refine thenQ_n (hK24 _ _ ?_)
                  refine WC.cond _ rfl (fun hc6 => ?_) (fun hc6 => ?_)
                  ·
                    have hr6 := hc6
                    try simp only [decide_eq_true_eq, decide_eq_false_iff_not, Bool.and_eq_true, Bool.or_eq_true, Bool.and_eq_false_iff, Bool.or_eq_false_iff, Bool.not_eq_true', Bool.not_eq_false', Int.not_lt, Int.not_le] at hc6
                    cases hr6
                  ·
                    have hr6 := hc6
                    try simp only [decide_eq_true_eq, decide_eq_false_iff_not, Bool.and_eq_true, Bool.or_eq_true, Bool.and_eq_false_iff, Bool.or_eq_false_iff, Bool.not_eq_true', Bool.not_eq_false', Int.not_lt, Int.not_le] at hc6
                    refine WC.skip ?_
                    refine thenQ_n (hK23 _ _ ?_)
                    refine WC.region ?_
                    refine WL.op rfl (opW.moveI rfl ?_)
                    refine WL.op rfl (opW.add rfl rfl (wrap_i64 (by omega)) ?_)
                    refine WL.op rfl (opW.assignI rfl ?_)
                    refine WL.nil ?_
                    refine blockQ_n ?_
                    refine thenQ_n (hK20 _ _ ?_)
                    refine WC.region ?_
                    refine WL.op rfl (opW.moveI rfl ?_)
                    refine WL.op rfl (opW.add rfl rfl (wrap_i64 (by omega)) ?_)
                    refine WL.op rfl (opW.assignI rfl ?_)
                    refine WL.nil ?_
                    refine thenQ_n ?_
                    first
                      | (have hst := chgF_step (r := r) (l := l) hkr hkl
                         rw [if_neg (by rw [hwr]; decide), List.append_nil] at hst
                         exact ⟨r.length - (k + 1), by omega, k + 1, ⟨rfl, rfl, rfl, by rw [hst]; rfl, congrArg (Value.int .i64) (by omega), trivial⟩, hS.sub (by repeat (first | with_reducible exact List.nil_sublist _ | with_reducible exact List.Sublist.refl _ | with_reducible refine List.Sublist.cons₂ _ ?_ | with_reducible refine List.Sublist.cons _ ?_)), by omega, rfl⟩)
                      | (have hst := chgF_step (r := r) (l := l) hkr hkl
                         rw [if_pos hwr] at hst
                         have hst2 : (chgF (r.take (k + 1)) (l.take (k + 1))).length = (chgF (r.take k) (l.take k)).length + 1 := by rw [hst]; simp
                         exact ⟨r.length - (k + 1), by omega, k + 1, ⟨rfl, rfl, rfl, congrArg (Value.int .i64) (by rw [hst2]; omega), congrArg (Value.int .i64) (by omega), trivial⟩, hS.sub (by repeat (first | with_reducible exact List.nil_sublist _ | with_reducible exact List.Sublist.refl _ | with_reducible refine List.Sublist.cons₂ _ ?_ | with_reducible refine List.Sublist.cons _ ?_)), by omega, rfl⟩)
              ·
                have hr4 := hc4
                try simp only [decide_eq_true_eq, decide_eq_false_iff_not, Bool.and_eq_true, Bool.or_eq_true, Bool.and_eq_false_iff, Bool.or_eq_false_iff, Bool.not_eq_true', Bool.not_eq_false', Int.not_lt, Int.not_le] at hc4
                obtain rfl : k = r.length := by omega
                refine WC.exit ?_
                refine thenQ_e ?_
                refine thenQ_e ?_
                refine blockQ_hit ?_
                refine thenQ_n (hK16 _ _ ?_)
                refine WC.seq (fun K25 hK25 => ?_)
                refine WC.region ?_
                refine WL.op rfl (opW.moveI rfl ?_)
                refine WL.op rfl (opW.fieldAddrB rfl ?_)
                refine WL.op rfl (opW.loadV rfl (hS.ld1 (b := b5) (cs := Enc.enc (outF R r qs l so)) (by first | exact .h0 | exact .h1 | exact .h2 | exact .h3 | exact .h4 | exact .h5 | exact .h6 | exact .h7 | exact .h8 | exact .h9 | exact .h10 | exact .h11 | exact .h12 | exact .h13 | exact .h14) (Outcome.at_changed (outF R r qs l so))) ?_)
                refine WL.op rfl (opW.lenV rfl ((hS.sl (v := (outF R r qs l so).changed.v) (xs := (chgF r l)) (by first | exact .h0 | exact .h1 | exact .h2 | exact .h3 | exact .h4 | exact .h5 | exact .h6 | exact .h7 | exact .h8 | exact .h9 | exact .h10 | exact .h11 | exact .h12 | exact .h13 | exact .h14))) ?_)
                refine WL.op rfl (opW.boolT (decide_eq_true (by rw [List.take_length, List.take_of_length_le (by omega)])) (opW.eql rfl rfl ⟨rfl, rfl⟩) ?_)
                refine WL.op rfl (opW.moveB rfl ?_)
                refine WL.gT 154 rfl rfl rfl (WL.op rfl (opW.call (lives15 _ (hg.bel hS.old)) rfl ?_))
                rintro _ w ⟨rfl, hw⟩; replace hS := hS.bel hw
                refine WL.op rfl (opW.pickT rfl rfl ?_)
                refine WL.op rfl (opW.assignB rfl ?_)
                refine WL.nil ?_
                refine thenQ_n (hK25 _ _ ?_)
                refine WC.ret ?_
                refine bodyQ_ret (.tmpB rfl .nil) ?_
                exact ⟨rfl, hS.old⟩

end Go.Fer
