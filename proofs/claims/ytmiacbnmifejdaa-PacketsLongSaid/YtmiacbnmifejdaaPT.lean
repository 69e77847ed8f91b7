/- PacketsLong -/
import Derived.Test.YtmiacbnmifejdaaPL
import Derived.Test.YtmiacbnmifejdaaPJ
set_option linter.all false
namespace Go.Fer
open Go Go.Proofs Go.RowKit

theorem shortB_1 {n : Nat} (h : n < 128) : (shortB n).length = 1 := by unfold shortB; rw [if_pos h]; rfl
theorem ptB_drop (x : TC) : (ptB x).drop ((shortB x.sigs.length).length + 64 * x.sigs.length) = putF x.m := by
  have hsb := sigB_all x.sigs
  rw [ptB_eq, ← List.drop_drop, List.drop_left, ← hsb, List.drop_left]

theorem plong_no (w0 : World) (t : Tx) (x : TC) (ins : List Instr) (lks : List Lookup) (hx : IsT w0 t x ins lks) (hbd : (x.m.keys.length ≤ 140737488351232 ∧ ins.length ≤ 140737488351232 ∧ lks.length ≤ 140737488351232 ∧ (∀ i (h : i < x.m.ins.length), x.m.ins[i].2.1.length ≤ 140737488351232 ∧ x.m.ins[i].2.2.length ≤ 140737488351232) ∧ (∀ i (h : i < x.m.lks.length), x.m.lks[i].2.1.length ≤ 140737488351232 ∧ x.m.lks[i].2.2.length ≤ 140737488351232))) (hm1 : mayF x.m = false) : Ret Try.prog 7 #[.agg (Enc.enc t)] w0 (fun r w' => r = .bool true ∧ Bel w0 w') := by
  refine Ret.enter (args := [.agg (Enc.enc t)]) Try.func7 rfl Try.ntmps7 Try.results7 rfl ?_
  have hS := St.start w0
  have hpq := ptB_leq x
  have hpd := ptB_drop x
  have hplen := putF_len x.m
  have hqE : putE x.m = 1 := if_neg (by rw [hm1]; decide)
  have hqL : putL2 x.m = [] := if_neg (by rw [hm1]; decide)
  have hpE : ptE x = 1 := by unfold ptE; rw [hm1]; rfl
  have hpL : ptL x = [] := by unfold ptL; rw [hpE]; rfl
  refine WC.seq (fun K1 hK1 => ?_)
  refine WC.region ?_
  refine WL.op rfl (opW.boxA hS rfl ?_)
  intro b1 w _ hS
  refine WL.op rfl (opW.assignB rfl ?_)
  refine WL.nil ?_
  refine thenQ_n (hK1 _ _ ?_)
  refine WC.seq (fun K2 hK2 => ?_)
  refine WC.seq (fun K3 hK3 => ?_)
  refine WC.region ?_
  refine WL.op rfl (opW.loadV rfl (hS.ldA (b := b1) (cs := Enc.enc t) (by first | exact .h0 | exact .h1 | exact .h2 | exact .h3 | exact .h4 | exact .h5 | exact .h6 | exact .h7 | exact .h8 | exact .h9 | exact .h10 | exact .h11 | exact .h12 | exact .h13 | exact .h14) (by exact Enc.size_eq _)) ?_)
  refine WL.op rfl (opW.call (great4_ok _ t x ins lks (hx.bel hS.old) hbd) rfl ?_)
  rintro _ w ⟨bb, rfl, hbb, hw⟩; replace hS := hS.bel hw
  refine WL.nil ?_
  refine thenQ_n (hK3 _ _ ?_)
  refine WC.cond _ rfl (fun hc0 => ?_) (fun hc0 => ?_)
  ·
    have hr0 := hc0
    try simp only [decide_eq_true_eq, decide_eq_false_iff_not, Bool.and_eq_true, Bool.or_eq_true, Bool.and_eq_false_iff, Bool.or_eq_false_iff, Bool.not_eq_true', Bool.not_eq_false', Int.not_lt, Int.not_le] at hc0
    refine WC.seq (fun K4 hK4 => ?_)
    refine WC.region ?_
    refine WL.op rfl (opW.call (lives4_ok _) rfl ?_)
    rintro _ w ⟨rfl, hw⟩; replace hS := hS.bel hw
    refine WL.op rfl (opW.assignB rfl ?_)
    refine WL.nil ?_
    refine thenQ_n (hK4 _ _ ?_)
    refine WC.ret ?_
    refine thenQ_r ?_
    refine bodyQ_ret (.tmpB rfl .nil) ?_
    exact ⟨rfl, hS.old⟩
  ·
    have hr0 := hc0
    try simp only [decide_eq_true_eq, decide_eq_false_iff_not, Bool.and_eq_true, Bool.or_eq_true, Bool.and_eq_false_iff, Bool.or_eq_false_iff, Bool.not_eq_true', Bool.not_eq_false', Int.not_lt, Int.not_le] at hc0
    have hsg := (hbb hr0).1
    have hsz := (hbb hr0).2
    have h1b := shortB_1 (n := x.sigs.length) (by omega)
    rw [h1b] at hpq hpd
    refine WC.skip ?_
    refine thenQ_n (hK2 _ _ ?_)
    refine WC.seq (fun K5 hK5 => ?_)
    refine WC.region ?_
    refine WL.op rfl (opW.fieldAddrB rfl ?_)
    refine WL.op rfl (opW.loadV rfl (hS.ldF (b := b1) (cs := Enc.enc t) (by first | exact .h0 | exact .h1 | exact .h2 | exact .h3 | exact .h4 | exact .h5 | exact .h6 | exact .h7 | exact .h8 | exact .h9 | exact .h10 | exact .h11 | exact .h12 | exact .h13 | exact .h14) (Tx.ex_m t) (by rw [Enc.size_eq]; decide)) ?_)
    refine WL.op rfl (opW.call (put_any _ t.m x.m ins lks (hx.2.bel hS.old) (by omega)) rfl ?_)
    rintro _ w ⟨v14, rfl, hn14, hw⟩; replace hS := hS.newOwn hw hn14.1 hn14.2
    rw [hqE]
    rw [hqL] at hS
    refine WL.op rfl (opW.moveV (v := .tuple #[v14, .int .i64 1]) rfl ?_)
    refine WL.op rfl (opW.extract rfl rfl ?_)
    refine WL.op rfl (opW.extract rfl rfl ?_)
    refine WL.op rfl (opW.assignV (v := v14) rfl ?_)
    refine WL.op rfl (opW.assignI rfl ?_)
    refine WL.nil ?_
    refine thenQ_n (hK5 _ _ ?_)
    refine WC.seq (fun K6 hK6 => ?_)
    refine WC.region ?_
    refine WL.op rfl (opW.loadV rfl (hS.ldA (b := b1) (cs := Enc.enc t) (by first | exact .h0 | exact .h1 | exact .h2 | exact .h3 | exact .h4 | exact .h5 | exact .h6 | exact .h7 | exact .h8 | exact .h9 | exact .h10 | exact .h11 | exact .h12 | exact .h13 | exact .h14) (by exact Enc.size_eq _)) ?_)
    refine WL.op rfl (opW.call (pput_ok _ t x ins lks (hx.bel hS.old) (by omega) (by omega)) rfl ?_)
    rintro _ w ⟨v19, rfl, hn19, hw, hc19⟩; replace hS := hS.newOwn hw hn19.1 hn19.2
    rw [hpE]
    rw [hpL] at hS
    refine WL.op rfl (opW.moveV (v := .tuple #[v19, .int .i64 1]) rfl ?_)
    refine WL.op rfl (opW.extract rfl rfl ?_)
    refine WL.op rfl (opW.extract rfl rfl ?_)
    refine WL.op rfl (opW.assignV (v := v19) rfl ?_)
    refine WL.op rfl (opW.assignI rfl ?_)
    refine WL.nil ?_
    refine thenQ_n (hK6 _ _ ?_)
    refine WC.seq (fun K7 hK7 => ?_)
    refine WC.seq (fun K8 hK8 => ?_)
    refine WC.region ?_
    refine WL.op rfl (opW.moveI rfl ?_)
    refine WL.op rfl (opW.neq rfl rfl ?_)
    refine WL.nil ?_
    refine thenQ_n (hK8 _ _ ?_)
    refine WC.cond _ rfl (fun hc1 => ?_) (fun hc1 => ?_)
    ·
      have hr1 := hc1
      try simp only [decide_eq_true_eq, decide_eq_false_iff_not, Bool.and_eq_true, Bool.or_eq_true, Bool.and_eq_false_iff, Bool.or_eq_false_iff, Bool.not_eq_true', Bool.not_eq_false', Int.not_lt, Int.not_le] at hc1
      refine WC.seq (fun K9 hK9 => ?_)
      refine WC.region ?_
      refine WL.op rfl (opW.moveI rfl ?_)
      refine WL.op rfl (opW.moveI rfl ?_)
      refine WL.op rfl (opW.boolT (by decide) (opW.eql rfl rfl ⟨rfl, rfl⟩) ?_)
      refine WL.op rfl (opW.moveB rfl ?_)
      refine WL.gT 27 rfl rfl rfl (WL.op rfl (opW.call (lives4_ok _) rfl ?_))
      rintro _ w ⟨rfl, hw⟩; replace hS := hS.bel hw
      refine WL.op rfl (opW.pickT rfl rfl ?_)
      refine WL.op rfl (opW.assignB rfl ?_)
      refine WL.nil ?_
      refine thenQ_n (hK9 _ _ ?_)
      refine WC.ret ?_
      refine thenQ_r ?_
      refine bodyQ_ret (.tmpB rfl .nil) ?_
      exact ⟨rfl, hS.old⟩
    ·
      have hr1 := hc1
      try simp only [decide_eq_true_eq, decide_eq_false_iff_not, Bool.and_eq_true, Bool.or_eq_true, Bool.and_eq_false_iff, Bool.or_eq_false_iff, Bool.not_eq_true', Bool.not_eq_false', Int.not_lt, Int.not_le] at hc1
      exact absurd hr1 (by decide)

theorem plong_lim (w0 : World) (t : Tx) (x : TC) (ins : List Instr) (lks : List Lookup) (hx : IsT w0 t x ins lks) (hbd : (x.m.keys.length ≤ 140737488351232 ∧ ins.length ≤ 140737488351232 ∧ lks.length ≤ 140737488351232 ∧ (∀ i (h : i < x.m.ins.length), x.m.ins[i].2.1.length ≤ 140737488351232 ∧ x.m.ins[i].2.2.length ≤ 140737488351232) ∧ (∀ i (h : i < x.m.lks.length), x.m.lks[i].2.1.length ≤ 140737488351232 ∧ x.m.lks[i].2.2.length ≤ 140737488351232))) (hm1 : mayF x.m = true) (hl : 1232 < (ptB x).length) : Ret Try.prog 7 #[.agg (Enc.enc t)] w0 (fun r w' => r = .bool true ∧ Bel w0 w') := by
  refine Ret.enter (args := [.agg (Enc.enc t)]) Try.func7 rfl Try.ntmps7 Try.results7 rfl ?_
  have hS := St.start w0
  have hpq := ptB_leq x
  have hpd := ptB_drop x
  have hplen := putF_len x.m
  have hqE : putE x.m = 0 := if_pos hm1
  have hqL : putL2 x.m = putF x.m := if_pos hm1
  have hpE : ptE x = 3 := by unfold ptE; rw [if_pos hm1, if_pos hl]
  have hpL : ptL x = [] := by unfold ptL; rw [hpE]; rfl
  refine WC.seq (fun K1 hK1 => ?_)
  refine WC.region ?_
  refine WL.op rfl (opW.boxA hS rfl ?_)
  intro b1 w _ hS
  refine WL.op rfl (opW.assignB rfl ?_)
  refine WL.nil ?_
  refine thenQ_n (hK1 _ _ ?_)
  refine WC.seq (fun K2 hK2 => ?_)
  refine WC.seq (fun K3 hK3 => ?_)
  refine WC.region ?_
  refine WL.op rfl (opW.loadV rfl (hS.ldA (b := b1) (cs := Enc.enc t) (by first | exact .h0 | exact .h1 | exact .h2 | exact .h3 | exact .h4 | exact .h5 | exact .h6 | exact .h7 | exact .h8 | exact .h9 | exact .h10 | exact .h11 | exact .h12 | exact .h13 | exact .h14) (by exact Enc.size_eq _)) ?_)
  refine WL.op rfl (opW.call (great4_ok _ t x ins lks (hx.bel hS.old) hbd) rfl ?_)
  rintro _ w ⟨bb, rfl, hbb, hw⟩; replace hS := hS.bel hw
  refine WL.nil ?_
  refine thenQ_n (hK3 _ _ ?_)
  refine WC.cond _ rfl (fun hc0 => ?_) (fun hc0 => ?_)
  ·
    have hr0 := hc0
    try simp only [decide_eq_true_eq, decide_eq_false_iff_not, Bool.and_eq_true, Bool.or_eq_true, Bool.and_eq_false_iff, Bool.or_eq_false_iff, Bool.not_eq_true', Bool.not_eq_false', Int.not_lt, Int.not_le] at hc0
    refine WC.seq (fun K4 hK4 => ?_)
    refine WC.region ?_
    refine WL.op rfl (opW.call (lives4_ok _) rfl ?_)
    rintro _ w ⟨rfl, hw⟩; replace hS := hS.bel hw
    refine WL.op rfl (opW.assignB rfl ?_)
    refine WL.nil ?_
    refine thenQ_n (hK4 _ _ ?_)
    refine WC.ret ?_
    refine thenQ_r ?_
    refine bodyQ_ret (.tmpB rfl .nil) ?_
    exact ⟨rfl, hS.old⟩
  ·
    have hr0 := hc0
    try simp only [decide_eq_true_eq, decide_eq_false_iff_not, Bool.and_eq_true, Bool.or_eq_true, Bool.and_eq_false_iff, Bool.or_eq_false_iff, Bool.not_eq_true', Bool.not_eq_false', Int.not_lt, Int.not_le] at hc0
    have hsg := (hbb hr0).1
    have hsz := (hbb hr0).2
    have h1b := shortB_1 (n := x.sigs.length) (by omega)
    rw [h1b] at hpq hpd
    refine WC.skip ?_
    refine thenQ_n (hK2 _ _ ?_)
    refine WC.seq (fun K5 hK5 => ?_)
    refine WC.region ?_
    refine WL.op rfl (opW.fieldAddrB rfl ?_)
    refine WL.op rfl (opW.loadV rfl (hS.ldF (b := b1) (cs := Enc.enc t) (by first | exact .h0 | exact .h1 | exact .h2 | exact .h3 | exact .h4 | exact .h5 | exact .h6 | exact .h7 | exact .h8 | exact .h9 | exact .h10 | exact .h11 | exact .h12 | exact .h13 | exact .h14) (Tx.ex_m t) (by rw [Enc.size_eq]; decide)) ?_)
    refine WL.op rfl (opW.call (put_any _ t.m x.m ins lks (hx.2.bel hS.old) (by omega)) rfl ?_)
    rintro _ w ⟨v14, rfl, hn14, hw⟩; replace hS := hS.newOwn hw hn14.1 hn14.2
    rw [hqE]
    rw [hqL] at hS
    refine WL.op rfl (opW.moveV (v := .tuple #[v14, .int .i64 0]) rfl ?_)
    refine WL.op rfl (opW.extract rfl rfl ?_)
    refine WL.op rfl (opW.extract rfl rfl ?_)
    refine WL.op rfl (opW.assignV (v := v14) rfl ?_)
    refine WL.op rfl (opW.assignI rfl ?_)
    refine WL.nil ?_
    refine thenQ_n (hK5 _ _ ?_)
    refine WC.seq (fun K6 hK6 => ?_)
    refine WC.region ?_
    refine WL.op rfl (opW.loadV rfl (hS.ldA (b := b1) (cs := Enc.enc t) (by first | exact .h0 | exact .h1 | exact .h2 | exact .h3 | exact .h4 | exact .h5 | exact .h6 | exact .h7 | exact .h8 | exact .h9 | exact .h10 | exact .h11 | exact .h12 | exact .h13 | exact .h14) (by exact Enc.size_eq _)) ?_)
    refine WL.op rfl (opW.call (pput_ok _ t x ins lks (hx.bel hS.old) (by omega) (by omega)) rfl ?_)
    rintro _ w ⟨v19, rfl, hn19, hw, hc19⟩; replace hS := hS.newOwn hw hn19.1 hn19.2
    rw [hpE]
    rw [hpL] at hS
    refine WL.op rfl (opW.moveV (v := .tuple #[v19, .int .i64 3]) rfl ?_)
    refine WL.op rfl (opW.extract rfl rfl ?_)
    refine WL.op rfl (opW.extract rfl rfl ?_)
    refine WL.op rfl (opW.assignV (v := v19) rfl ?_)
    refine WL.op rfl (opW.assignI rfl ?_)
    refine WL.nil ?_
    refine thenQ_n (hK6 _ _ ?_)
    refine WC.seq (fun K7 hK7 => ?_)
    refine WC.seq (fun K8 hK8 => ?_)
    refine WC.region ?_
    refine WL.op rfl (opW.moveI rfl ?_)
    refine WL.op rfl (opW.neq rfl rfl ?_)
    refine WL.nil ?_
    refine thenQ_n (hK8 _ _ ?_)
    refine WC.cond _ rfl (fun hc1 => ?_) (fun hc1 => ?_)
    ·
      have hr1 := hc1
      try simp only [decide_eq_true_eq, decide_eq_false_iff_not, Bool.and_eq_true, Bool.or_eq_true, Bool.and_eq_false_iff, Bool.or_eq_false_iff, Bool.not_eq_true', Bool.not_eq_false', Int.not_lt, Int.not_le] at hc1
      exact absurd hr1 (by decide)
    ·
      have hr1 := hc1
      try simp only [decide_eq_true_eq, decide_eq_false_iff_not, Bool.and_eq_true, Bool.or_eq_true, Bool.and_eq_false_iff, Bool.or_eq_false_iff, Bool.not_eq_true', Bool.not_eq_false', Int.not_lt, Int.not_le] at hc1
      refine WC.skip ?_
      refine thenQ_n (hK7 _ _ ?_)
      refine WC.seq (fun K9 hK9 => ?_)
      refine WC.region ?_
      refine WL.op rfl (opW.fieldAddrB rfl ?_)
      refine WL.op rfl (opW.loadV rfl (hS.ld1 (b := b1) (cs := Enc.enc t) (by first | exact .h0 | exact .h1 | exact .h2 | exact .h3 | exact .h4 | exact .h5 | exact .h6 | exact .h7 | exact .h8 | exact .h9 | exact .h10 | exact .h11 | exact .h12 | exact .h13 | exact .h14) (Tx.at_sigs t)) ?_)
      refine WL.op rfl (opW.lenV rfl ((hx.1.bel hS.old)) ?_)
      refine WL.op rfl (opW.mul rfl rfl ((show IntKind.i64.wrap _ = ((64 * x.sigs.length : Nat) : Int) from by rw [IntKind.wrap_i64]; omega)) ?_)
      refine WL.op rfl (opW.add rfl rfl ((show IntKind.i64.wrap _ = ((1 + 64 * x.sigs.length : Nat) : Int) from by rw [IntKind.wrap_i64]; omega)) ?_)
      refine WL.op rfl (opW.moveV (v := v14) rfl ?_)
      refine WL.op rfl (opW.lenV rfl ((hS.sl (v := v14) (xs := (putF x.m)) (by first | exact .h0 | exact .h1 | exact .h2 | exact .h3 | exact .h4 | exact .h5 | exact .h6 | exact .h7 | exact .h8 | exact .h9 | exact .h10 | exact .h11 | exact .h12 | exact .h13 | exact .h14))) ?_)
      refine WL.op rfl (opW.add rfl rfl ((show IntKind.i64.wrap _ = (((ptB x).length : Nat) : Int) from by rw [IntKind.wrap_i64]; omega)) ?_)
      refine WL.op rfl (opW.assignI rfl ?_)
      refine WL.nil ?_
      refine thenQ_n (hK9 _ _ ?_)
      refine WC.seq (fun K10 hK10 => ?_)
      refine WC.seq (fun K11 hK11 => ?_)
      refine WC.region ?_
      refine WL.op rfl (opW.moveI rfl ?_)
      refine WL.op rfl (opW.gtr rfl rfl ?_)
      refine WL.nil ?_
      refine thenQ_n (hK11 _ _ ?_)
      refine WC.cond _ rfl (fun hc2 => ?_) (fun hc2 => ?_)
      ·
        have hr2 := hc2
        try simp only [decide_eq_true_eq, decide_eq_false_iff_not, Bool.and_eq_true, Bool.or_eq_true, Bool.and_eq_false_iff, Bool.or_eq_false_iff, Bool.not_eq_true', Bool.not_eq_false', Int.not_lt, Int.not_le] at hc2
        refine WC.seq (fun K12 hK12 => ?_)
        refine WC.region ?_
        refine WL.op rfl (opW.moveI rfl ?_)
        refine WL.op rfl (opW.boolT (by decide) (opW.eql rfl rfl ⟨rfl, rfl⟩) ?_)
        refine WL.op rfl (opW.moveB rfl ?_)
        refine WL.gT 42 rfl rfl rfl (WL.op rfl (opW.moveV (v := v19) rfl ?_))
        refine WL.gT 42 rfl rfl rfl (WL.op rfl (opW.lenV rfl ((hS.sl (v := v19) (xs := ([] : List UInt8)) (by first | exact .h0 | exact .h1 | exact .h2 | exact .h3 | exact .h4 | exact .h5 | exact .h6 | exact .h7 | exact .h8 | exact .h9 | exact .h10 | exact .h11 | exact .h12 | exact .h13 | exact .h14))) ?_))
        refine WL.gT 42 rfl rfl rfl (WL.op rfl (opW.boolT (by simp) (opW.eql rfl rfl ⟨rfl, rfl⟩) ?_))
        refine WL.op rfl (opW.pickT rfl rfl ?_)
        refine WL.op rfl (opW.moveB rfl ?_)
        refine WL.gT 47 rfl rfl rfl (WL.op rfl (opW.call (lives4_ok _) rfl ?_))
        rintro _ w ⟨rfl, hw⟩; replace hS := hS.bel hw
        refine WL.op rfl (opW.pickT rfl rfl ?_)
        refine WL.op rfl (opW.assignB rfl ?_)
        refine WL.nil ?_
        refine thenQ_n (hK12 _ _ ?_)
        refine WC.ret ?_
        refine thenQ_r ?_
        refine bodyQ_ret (.tmpB rfl .nil) ?_
        exact ⟨rfl, hS.old⟩
      ·
        have hr2 := hc2
        try simp only [decide_eq_true_eq, decide_eq_false_iff_not, Bool.and_eq_true, Bool.or_eq_true, Bool.and_eq_false_iff, Bool.or_eq_false_iff, Bool.not_eq_true', Bool.not_eq_false', Int.not_lt, Int.not_le] at hc2
        simp at hr2; omega

theorem plong_ok (w0 : World) (t : Tx) (x : TC) (ins : List Instr) (lks : List Lookup) (hx : IsT w0 t x ins lks) (hbd : (x.m.keys.length ≤ 140737488351232 ∧ ins.length ≤ 140737488351232 ∧ lks.length ≤ 140737488351232 ∧ (∀ i (h : i < x.m.ins.length), x.m.ins[i].2.1.length ≤ 140737488351232 ∧ x.m.ins[i].2.2.length ≤ 140737488351232) ∧ (∀ i (h : i < x.m.lks.length), x.m.lks[i].2.1.length ≤ 140737488351232 ∧ x.m.lks[i].2.2.length ≤ 140737488351232))) (hm1 : mayF x.m = true) (hl : ¬ 1232 < (ptB x).length) : Ret Try.prog 7 #[.agg (Enc.enc t)] w0 (fun r w' => r = .bool true ∧ Bel w0 w') := by
  refine Ret.enter (args := [.agg (Enc.enc t)]) Try.func7 rfl Try.ntmps7 Try.results7 rfl ?_
  have hS := St.start w0
  have hpq := ptB_leq x
  have hpd := ptB_drop x
  have hplen := putF_len x.m
  have hqE : putE x.m = 0 := if_pos hm1
  have hqL : putL2 x.m = putF x.m := if_pos hm1
  have hpE : ptE x = 0 := by unfold ptE; rw [if_pos hm1, if_neg hl]
  have hpL : ptL x = ptB x := by unfold ptL; rw [if_pos hpE]
  refine WC.seq (fun K1 hK1 => ?_)
  refine WC.region ?_
  refine WL.op rfl (opW.boxA hS rfl ?_)
  intro b1 w _ hS
  refine WL.op rfl (opW.assignB rfl ?_)
  refine WL.nil ?_
  refine thenQ_n (hK1 _ _ ?_)
  refine WC.seq (fun K2 hK2 => ?_)
  refine WC.seq (fun K3 hK3 => ?_)
  refine WC.region ?_
  refine WL.op rfl (opW.loadV rfl (hS.ldA (b := b1) (cs := Enc.enc t) (by first | exact .h0 | exact .h1 | exact .h2 | exact .h3 | exact .h4 | exact .h5 | exact .h6 | exact .h7 | exact .h8 | exact .h9 | exact .h10 | exact .h11 | exact .h12 | exact .h13 | exact .h14) (by exact Enc.size_eq _)) ?_)
  refine WL.op rfl (opW.call (great4_ok _ t x ins lks (hx.bel hS.old) hbd) rfl ?_)
  rintro _ w ⟨bb, rfl, hbb, hw⟩; replace hS := hS.bel hw
  refine WL.nil ?_
  refine thenQ_n (hK3 _ _ ?_)
  refine WC.cond _ rfl (fun hc0 => ?_) (fun hc0 => ?_)
  ·
    have hr0 := hc0
    try simp only [decide_eq_true_eq, decide_eq_false_iff_not, Bool.and_eq_true, Bool.or_eq_true, Bool.and_eq_false_iff, Bool.or_eq_false_iff, Bool.not_eq_true', Bool.not_eq_false', Int.not_lt, Int.not_le] at hc0
    refine WC.seq (fun K4 hK4 => ?_)
    refine WC.region ?_
    refine WL.op rfl (opW.call (lives4_ok _) rfl ?_)
    rintro _ w ⟨rfl, hw⟩; replace hS := hS.bel hw
    refine WL.op rfl (opW.assignB rfl ?_)
    refine WL.nil ?_
    refine thenQ_n (hK4 _ _ ?_)
    refine WC.ret ?_
    refine thenQ_r ?_
    refine bodyQ_ret (.tmpB rfl .nil) ?_
    exact ⟨rfl, hS.old⟩
  ·
    have hr0 := hc0
    try simp only [decide_eq_true_eq, decide_eq_false_iff_not, Bool.and_eq_true, Bool.or_eq_true, Bool.and_eq_false_iff, Bool.or_eq_false_iff, Bool.not_eq_true', Bool.not_eq_false', Int.not_lt, Int.not_le] at hc0
    have hsg := (hbb hr0).1
    have hsz := (hbb hr0).2
    have h1b := shortB_1 (n := x.sigs.length) (by omega)
    rw [h1b] at hpq hpd
    refine WC.skip ?_
    refine thenQ_n (hK2 _ _ ?_)
    refine WC.seq (fun K5 hK5 => ?_)
    refine WC.region ?_
    refine WL.op rfl (opW.fieldAddrB rfl ?_)
    refine WL.op rfl (opW.loadV rfl (hS.ldF (b := b1) (cs := Enc.enc t) (by first | exact .h0 | exact .h1 | exact .h2 | exact .h3 | exact .h4 | exact .h5 | exact .h6 | exact .h7 | exact .h8 | exact .h9 | exact .h10 | exact .h11 | exact .h12 | exact .h13 | exact .h14) (Tx.ex_m t) (by rw [Enc.size_eq]; decide)) ?_)
    refine WL.op rfl (opW.call (put_any _ t.m x.m ins lks (hx.2.bel hS.old) (by omega)) rfl ?_)
    rintro _ w ⟨v14, rfl, hn14, hw⟩; replace hS := hS.newOwn hw hn14.1 hn14.2
    rw [hqE]
    rw [hqL] at hS
    refine WL.op rfl (opW.moveV (v := .tuple #[v14, .int .i64 0]) rfl ?_)
    refine WL.op rfl (opW.extract rfl rfl ?_)
    refine WL.op rfl (opW.extract rfl rfl ?_)
    refine WL.op rfl (opW.assignV (v := v14) rfl ?_)
    refine WL.op rfl (opW.assignI rfl ?_)
    refine WL.nil ?_
    refine thenQ_n (hK5 _ _ ?_)
    refine WC.seq (fun K6 hK6 => ?_)
    refine WC.region ?_
    refine WL.op rfl (opW.loadV rfl (hS.ldA (b := b1) (cs := Enc.enc t) (by first | exact .h0 | exact .h1 | exact .h2 | exact .h3 | exact .h4 | exact .h5 | exact .h6 | exact .h7 | exact .h8 | exact .h9 | exact .h10 | exact .h11 | exact .h12 | exact .h13 | exact .h14) (by exact Enc.size_eq _)) ?_)
    refine WL.op rfl (opW.call (pput_ok _ t x ins lks (hx.bel hS.old) (by omega) (by omega)) rfl ?_)
    rintro _ w ⟨v19, rfl, hn19, hw, hc19⟩; replace hS := hS.newOwn hw hn19.1 hn19.2
    rw [hpE]
    rw [hpL] at hS
    refine WL.op rfl (opW.moveV (v := .tuple #[v19, .int .i64 0]) rfl ?_)
    refine WL.op rfl (opW.extract rfl rfl ?_)
    refine WL.op rfl (opW.extract rfl rfl ?_)
    refine WL.op rfl (opW.assignV (v := v19) rfl ?_)
    refine WL.op rfl (opW.assignI rfl ?_)
    refine WL.nil ?_
    refine thenQ_n (hK6 _ _ ?_)
    refine WC.seq (fun K7 hK7 => ?_)
    refine WC.seq (fun K8 hK8 => ?_)
    refine WC.region ?_
    refine WL.op rfl (opW.moveI rfl ?_)
    refine WL.op rfl (opW.neq rfl rfl ?_)
    refine WL.nil ?_
    refine thenQ_n (hK8 _ _ ?_)
    refine WC.cond _ rfl (fun hc1 => ?_) (fun hc1 => ?_)
    ·
      have hr1 := hc1
      try simp only [decide_eq_true_eq, decide_eq_false_iff_not, Bool.and_eq_true, Bool.or_eq_true, Bool.and_eq_false_iff, Bool.or_eq_false_iff, Bool.not_eq_true', Bool.not_eq_false', Int.not_lt, Int.not_le] at hc1
      exact absurd hr1 (by decide)
    ·
      have hr1 := hc1
      try simp only [decide_eq_true_eq, decide_eq_false_iff_not, Bool.and_eq_true, Bool.or_eq_true, Bool.and_eq_false_iff, Bool.or_eq_false_iff, Bool.not_eq_true', Bool.not_eq_false', Int.not_lt, Int.not_le] at hc1
      refine WC.skip ?_
      refine thenQ_n (hK7 _ _ ?_)
      refine WC.seq (fun K9 hK9 => ?_)
      refine WC.region ?_
      refine WL.op rfl (opW.fieldAddrB rfl ?_)
      refine WL.op rfl (opW.loadV rfl (hS.ld1 (b := b1) (cs := Enc.enc t) (by first | exact .h0 | exact .h1 | exact .h2 | exact .h3 | exact .h4 | exact .h5 | exact .h6 | exact .h7 | exact .h8 | exact .h9 | exact .h10 | exact .h11 | exact .h12 | exact .h13 | exact .h14) (Tx.at_sigs t)) ?_)
      refine WL.op rfl (opW.lenV rfl ((hx.1.bel hS.old)) ?_)
      refine WL.op rfl (opW.mul rfl rfl ((show IntKind.i64.wrap _ = ((64 * x.sigs.length : Nat) : Int) from by rw [IntKind.wrap_i64]; omega)) ?_)
      refine WL.op rfl (opW.add rfl rfl ((show IntKind.i64.wrap _ = ((1 + 64 * x.sigs.length : Nat) : Int) from by rw [IntKind.wrap_i64]; omega)) ?_)
      refine WL.op rfl (opW.moveV (v := v14) rfl ?_)
      refine WL.op rfl (opW.lenV rfl ((hS.sl (v := v14) (xs := (putF x.m)) (by first | exact .h0 | exact .h1 | exact .h2 | exact .h3 | exact .h4 | exact .h5 | exact .h6 | exact .h7 | exact .h8 | exact .h9 | exact .h10 | exact .h11 | exact .h12 | exact .h13 | exact .h14))) ?_)
      refine WL.op rfl (opW.add rfl rfl ((show IntKind.i64.wrap _ = (((ptB x).length : Nat) : Int) from by rw [IntKind.wrap_i64]; omega)) ?_)
      refine WL.op rfl (opW.assignI rfl ?_)
      refine WL.nil ?_
      refine thenQ_n (hK9 _ _ ?_)
      refine WC.seq (fun K10 hK10 => ?_)
      refine WC.seq (fun K11 hK11 => ?_)
      refine WC.region ?_
      refine WL.op rfl (opW.moveI rfl ?_)
      refine WL.op rfl (opW.gtr rfl rfl ?_)
      refine WL.nil ?_
      refine thenQ_n (hK11 _ _ ?_)
      refine WC.cond _ rfl (fun hc2 => ?_) (fun hc2 => ?_)
      ·
        have hr2 := hc2
        try simp only [decide_eq_true_eq, decide_eq_false_iff_not, Bool.and_eq_true, Bool.or_eq_true, Bool.and_eq_false_iff, Bool.or_eq_false_iff, Bool.not_eq_true', Bool.not_eq_false', Int.not_lt, Int.not_le] at hc2
        simp at hr2; omega
      ·
        have hr2 := hc2
        try simp only [decide_eq_true_eq, decide_eq_false_iff_not, Bool.and_eq_true, Bool.or_eq_true, Bool.and_eq_false_iff, Bool.or_eq_false_iff, Bool.not_eq_true', Bool.not_eq_false', Int.not_lt, Int.not_le] at hc2
        refine WC.skip ?_
        refine thenQ_n (hK10 _ _ ?_)
        refine WC.seq (fun K12 hK12 => ?_)
        refine WC.region ?_
        refine WL.op rfl (opW.moveI rfl ?_)
        refine WL.op rfl (opW.boolT (by decide) (opW.eql rfl rfl ⟨rfl, rfl⟩) ?_)
        refine WL.op rfl (opW.moveB rfl ?_)
        refine WL.gT 52 rfl rfl rfl (WL.op rfl (opW.moveV (v := v19) rfl ?_))
        refine WL.gT 52 rfl rfl rfl (WL.op rfl (opW.lenV rfl ((hS.sl (v := v19) (xs := (ptB x)) (by first | exact .h0 | exact .h1 | exact .h2 | exact .h3 | exact .h4 | exact .h5 | exact .h6 | exact .h7 | exact .h8 | exact .h9 | exact .h10 | exact .h11 | exact .h12 | exact .h13 | exact .h14))) ?_))
        refine WL.gT 52 rfl rfl rfl (WL.op rfl (opW.moveI rfl ?_))
        refine WL.gT 52 rfl rfl rfl (WL.op rfl (opW.boolT (by simp) (opW.eql rfl rfl ⟨rfl, rfl⟩) ?_))
        refine WL.op rfl (opW.pickT rfl rfl ?_)
        refine WL.op rfl (opW.moveB rfl ?_)
        refine WL.gT 58 rfl rfl rfl (WL.op rfl (opW.moveV (v := v19) rfl ?_))
        refine WL.gT 58 rfl rfl rfl (WL.op rfl (opW.moveI rfl ?_))
        refine WL.gT 58 rfl rfl rfl (WL.op rfl (opW.moveV (v := v14) rfl ?_))
        refine WL.gT 58 rfl rfl rfl (WL.op rfl (opW.lenV rfl ((hS.sl (v := v14) (xs := (putF x.m)) (by first | exact .h0 | exact .h1 | exact .h2 | exact .h3 | exact .h4 | exact .h5 | exact .h6 | exact .h7 | exact .h8 | exact .h9 | exact .h10 | exact .h11 | exact .h12 | exact .h13 | exact .h14))) ?_))
        refine WL.gT 58 rfl rfl rfl (WL.op rfl (opW.sub rfl rfl ((show IntKind.i64.wrap _ = ((1 + 64 * x.sigs.length : Nat) : Int) from by rw [IntKind.wrap_i64]; omega)) ?_))
        refine WL.gT 58 rfl rfl rfl (WL.op rfl (opW.cutS (hS.sl (v := v19) (xs := (ptB x)) (by first | exact .h0 | exact .h1 | exact .h2 | exact .h3 | exact .h4 | exact .h5 | exact .h6 | exact .h7 | exact .h8 | exact .h9 | exact .h10 | exact .h11 | exact .h12 | exact .h13 | exact .h14)) (xs := ptB x) (l := 1 + 64 * x.sigs.length) (h' := (ptB x).length) (m := capV v19) ⟨rfl, Nat.le_refl _⟩ ⟨⟨rfl, rfl⟩, (hS.sl (v := v19) (xs := (ptB x)) (by first | exact .h0 | exact .h1 | exact .h2 | exact .h3 | exact .h4 | exact .h5 | exact .h6 | exact .h7 | exact .h8 | exact .h9 | exact .h10 | exact .h11 | exact .h12 | exact .h13 | exact .h14)).cap⟩ ⟨⟨_, rfl⟩, by omega⟩ ?_))
        have hcs : SlR w (cutV v19 (1 + 64 * x.sigs.length) (ptB x).length (capV v19) (Enc.sz UInt8)) (putF x.m) := by
          have h1 := (hS.sl (v := v19) (xs := (ptB x)) (by first | exact .h0 | exact .h1 | exact .h2 | exact .h3 | exact .h4 | exact .h5 | exact .h6 | exact .h7 | exact .h8 | exact .h9 | exact .h10 | exact .h11 | exact .h12 | exact .h13 | exact .h14)).cut (l := 1 + 64 * x.sigs.length) (h := (ptB x).length) (m := capV v19) (by omega) (Nat.le_refl _) (hS.sl (v := v19) (xs := (ptB x)) (by first | exact .h0 | exact .h1 | exact .h2 | exact .h3 | exact .h4 | exact .h5 | exact .h6 | exact .h7 | exact .h8 | exact .h9 | exact .h10 | exact .h11 | exact .h12 | exact .h13 | exact .h14)).cap (Nat.le_refl _)
          rw [List.take_length, hpd] at h1
          exact h1
        refine WL.gT 58 rfl rfl rfl (WL.op rfl (opW.moveV (v := v14) rfl ?_))
        refine WL.gT 58 rfl rfl rfl (WL.op rfl (opW.call (sameBytes_ok _ _ v14 (putF x.m) (putF x.m) hcs (hS.sl (v := v14) (xs := (putF x.m)) (by first | exact .h0 | exact .h1 | exact .h2 | exact .h3 | exact .h4 | exact .h5 | exact .h6 | exact .h7 | exact .h8 | exact .h9 | exact .h10 | exact .h11 | exact .h12 | exact .h13 | exact .h14))) rfl ?_))
        rintro _ w ⟨rfl, hw⟩; replace hS := hS.bel hw
        rw [decide_eq_true (rfl : putF x.m = putF x.m)]
        refine WL.op rfl (opW.pickT rfl rfl ?_)
        refine WL.op rfl (opW.moveB rfl ?_)
        refine WL.gT 68 rfl rfl rfl (WL.op rfl (opW.call (lives4_ok _) rfl ?_))
        rintro _ w ⟨rfl, hw⟩; replace hS := hS.bel hw
        refine WL.op rfl (opW.pickT rfl rfl ?_)
        refine WL.op rfl (opW.assignB rfl ?_)
        refine WL.nil ?_
        refine thenQ_n (hK12 _ _ ?_)
        refine WC.ret ?_
        refine bodyQ_ret (.tmpB rfl .nil) ?_
        exact ⟨rfl, hS.old⟩

theorem plonglaw (w0 : World) (t : Tx) (ht : t.okz w0) : Ret Try.prog 7 #[.agg (Enc.enc t)] w0 (fun r w' => r = .bool true ∧ Bel w0 w') := by
  obtain ⟨x, ins, lks, hx, hbd⟩ := okz_isT ht
  cases hm : mayF x.m with
  | false => exact plong_no w0 t x ins lks hx hbd hm
  | true =>
    by_cases hl : 1232 < (ptB x).length
    · exact plong_lim w0 t x ins lks hx hbd hm hl
    · exact plong_ok w0 t x ins lks hx hbd hm hl

end Go.Fer
