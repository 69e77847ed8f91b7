/- MessagesBack -/
import Derived.Test.YtljdebibekdhdaaG2
import Derived.Test.YtljdebibekdhdaaV
import Derived.Test.YtljdebibekdhdaaO
import Derived.Test.YtljdebibekdhdaaS
set_option linter.all false
namespace Go.Fer
open Go Go.Proofs Go.RowKit

theorem back_no (w0 : World) (m : Message) (c : MC) (ins : List Instr) (lks : List Lookup) (sb : SlV) (xs : List UInt8) (k : Nat) (hk : k ≤ 65535) (hb : SlR w0 sb.v xs) (hc : IsM w0 m c ins lks) (hbd : (c.keys.length ≤ 140737488351232 ∧ ins.length ≤ 140737488351232 ∧ lks.length ≤ 140737488351232 ∧ (∀ i (h : i < c.ins.length), c.ins[i].2.1.length ≤ 140737488351232 ∧ c.ins[i].2.2.length ≤ 140737488351232) ∧ (∀ i (h : i < c.lks.length), c.lks[i].2.1.length ≤ 140737488351232 ∧ c.lks[i].2.2.length ≤ 140737488351232))) (hm1 : mayF c = false) : Ret Try.prog 5 #[.agg (Enc.enc m), sb.v, .int .u16 (k : Int)] w0 (fun r w' => r = .bool true ∧ Bel w0 w') := by
  refine Ret.enter (args := [.agg (Enc.enc m), sb.v, .int .u16 (k : Int)]) Try.func5 rfl Try.ntmps5 Try.results5 rfl ?_
  have hS := St.start w0
  obtain ⟨h1, h2, h3, h4, h5⟩ := hbd
  have hble := hb.le
  simp only [maxLen] at hble
  have hpE : putE c = 1 := if_neg (by rw [hm1]; decide)
  have hpL : putL2 c = [] := if_neg (by rw [hm1]; decide)
  refine WC.seq (fun K1 hK1 => ?_)
  refine WC.region ?_
  refine WL.op rfl (opW.boxA hS rfl ?_)
  intro b3 w _ hS
  refine WL.op rfl (opW.assignB rfl ?_)
  refine WL.nil ?_
  refine thenQ_n (hK1 _ _ ?_)
  refine WC.seq (fun K2 hK2 => ?_)
  refine WC.seq (fun K3 hK3 => ?_)
  refine WC.region ?_
  refine WL.op rfl (opW.loadV rfl (hS.ldA (cs := Enc.enc m) (by first | exact .h0 | exact .h1 | exact .h2 | exact .h3 | exact .h4 | exact .h5 | exact .h6 | exact .h7 | exact .h8 | exact .h9 | exact .h10 | exact .h11 | exact .h12 | exact .h13 | exact .h14) (by exact Enc.size_eq _)) ?_)
  refine WL.op rfl (opW.call (great_ok _ m c ins lks (hc.bel hS.old) h1 h2 h3 h4 h5) rfl ?_)
  rintro _ w ⟨bb, rfl, hbb, hw⟩; replace hS := hS.bel hw
  refine WL.op rfl (opW.moveB rfl ?_)
  refine WL.gd _ 17 _ rfl rfl rfl rfl (fun hg18 => opW.moveV (v := sb.v) rfl ⟨rfl, Bel.refl _⟩) (fun w hw => ?_)
  replace hS := hS.bel hw
  refine WL.gd _ 17 _ rfl rfl rfl rfl (fun hg19 => opW.lenV (by first | exact gv_of rfl hg19 | rfl) ((hb.bel hS.old)) ⟨rfl, Bel.refl _⟩) (fun w hw => ?_)
  replace hS := hS.bel hw
  refine WL.gd _ 17 _ rfl rfl rfl rfl (fun hg20 => opW.gtr (by first | exact gv_of rfl hg20 | rfl) rfl ⟨rfl, Bel.refl _⟩) (fun w hw => ?_)
  replace hS := hS.bel hw
  refine WL.op rfl (opW.pickOr rfl rfl (by first | rfl) ?_)
  refine WL.nil ?_
  refine thenQ_n (hK3 _ _ ?_)
  refine WC.cond _ rfl (fun hc0 => ?_) (fun hc0 => ?_)
  ·
    have hr0 := hc0
    try simp only [decide_eq_true_eq, decide_eq_false_iff_not, Bool.and_eq_true, Bool.or_eq_true, Bool.and_eq_false_iff, Bool.or_eq_false_iff, Bool.not_eq_true', Bool.not_eq_false', Int.not_lt, Int.not_le] at hc0
    refine WC.seq (fun K4 hK4 => ?_)
    refine WC.region ?_
    refine WL.op rfl (opW.call (lives_ok _) rfl ?_)
    rintro _ w ⟨rfl, hw⟩; replace hS := hS.bel hw
    refine WL.op rfl (opW.assignB rfl ?_)
    refine WL.nil ?_
    refine thenQ_n (hK4 _ _ ?_)
    refine WC.ret ?_
    refine thenQ_r ?_
    refine bodyQ_ret (.tmpB rfl .nil) ?_
    exact ⟨rfl, hS.old⟩
  ·
    have hr0 := hc0
    try simp only [decide_eq_true_eq, decide_eq_false_iff_not, Bool.and_eq_true, Bool.or_eq_true, Bool.and_eq_false_iff, Bool.or_eq_false_iff, Bool.not_eq_true', Bool.not_eq_false', Int.not_lt, Int.not_le] at hc0
    have hr00 := hr0
    simp only [Bool.or_eq_false_iff, decide_eq_false_iff_not] at hr00
    have hsz := hbb hr00.1
    have hbl : xs.length ≤ 1000 := by have := hr00.2; omega
    refine WC.skip ?_
    refine thenQ_n (hK2 _ _ ?_)
    refine WC.seq (fun K5 hK5 => ?_)
    refine WC.region ?_
    refine WL.op rfl (opW.loadV rfl (hS.ldA (cs := Enc.enc m) (by first | exact .h0 | exact .h1 | exact .h2 | exact .h3 | exact .h4 | exact .h5 | exact .h6 | exact .h7 | exact .h8 | exact .h9 | exact .h10 | exact .h11 | exact .h12 | exact .h13 | exact .h14) (by exact Enc.size_eq _)) ?_)
    refine WL.op rfl (opW.call (put_any _ m c ins lks (hc.bel hS.old) (by omega)) rfl ?_)
    rintro _ w ⟨v25, rfl, hn25, hw⟩; replace hS := hS.newOwn hw hn25.1 hn25.2
    rw [hpE]
    rw [hpL] at hS
    refine WL.op rfl (opW.moveV (v := .tuple #[v25, .int .i64 1]) rfl ?_)
    refine WL.op rfl (opW.extract rfl rfl ?_)
    refine WL.op rfl (opW.extract rfl rfl ?_)
    refine WL.op rfl (opW.assignV (v := v25) rfl ?_)
    refine WL.op rfl (opW.assignI rfl ?_)
    refine WL.nil ?_
    refine thenQ_n (hK5 _ _ ?_)
    refine WC.seq (fun K6 hK6 => ?_)
    refine WC.seq (fun K7 hK7 => ?_)
    refine WC.region ?_
    refine WL.op rfl (opW.moveI rfl ?_)
    refine WL.op rfl (opW.neq rfl rfl ?_)
    refine WL.nil ?_
    refine thenQ_n (hK7 _ _ ?_)
    refine WC.cond _ rfl (fun hc1 => ?_) (fun hc1 => ?_)
    ·
      have hr1 := hc1
      try simp only [decide_eq_true_eq, decide_eq_false_iff_not, Bool.and_eq_true, Bool.or_eq_true, Bool.and_eq_false_iff, Bool.or_eq_false_iff, Bool.not_eq_true', Bool.not_eq_false', Int.not_lt, Int.not_le] at hc1
      refine WC.seq (fun K8 hK8 => ?_)
      refine WC.region ?_
      refine WL.op rfl (opW.moveI rfl ?_)
      refine WL.op rfl (opW.boolT (by decide) (opW.eql rfl rfl ⟨rfl, rfl⟩) ?_)
      refine WL.op rfl (opW.moveB rfl ?_)
      refine WL.gT 32 rfl rfl rfl (WL.op rfl (opW.moveV (v := v25) rfl ?_))
      refine WL.gT 32 rfl rfl rfl (WL.op rfl (opW.lenV rfl ((hS.sl (v := v25) (xs := ([] : List UInt8)) (by first | exact .h0 | exact .h1 | exact .h2 | exact .h3 | exact .h4 | exact .h5 | exact .h6 | exact .h7 | exact .h8 | exact .h9 | exact .h10 | exact .h11 | exact .h12 | exact .h13 | exact .h14))) ?_))
      refine WL.gT 32 rfl rfl rfl (WL.op rfl (opW.boolT (by decide) (opW.eql rfl rfl ⟨rfl, rfl⟩) ?_))
      refine WL.op rfl (opW.pickT rfl rfl ?_)
      refine WL.op rfl (opW.moveB rfl ?_)
      refine WL.gT 37 rfl rfl rfl (WL.op rfl (opW.call (lives_ok _) rfl ?_))
      rintro _ w ⟨rfl, hw⟩; replace hS := hS.bel hw
      refine WL.op rfl (opW.pickT rfl rfl ?_)
      refine WL.op rfl (opW.assignB rfl ?_)
      refine WL.nil ?_
      refine thenQ_n (hK8 _ _ ?_)
      refine WC.ret ?_
      refine thenQ_r ?_
      refine bodyQ_ret (.tmpB rfl .nil) ?_
      exact ⟨rfl, hS.old⟩
    ·
      have hr1 := hc1
      try simp only [decide_eq_true_eq, decide_eq_false_iff_not, Bool.and_eq_true, Bool.or_eq_true, Bool.and_eq_false_iff, Bool.or_eq_false_iff, Bool.not_eq_true', Bool.not_eq_false', Int.not_lt, Int.not_le] at hc1
      exact absurd hr1 (by decide)

theorem back_yes (w0 : World) (m : Message) (c : MC) (ins : List Instr) (lks : List Lookup) (sb : SlV) (xs : List UInt8) (k : Nat) (hk : k ≤ 65535) (hb : SlR w0 sb.v xs) (hc : IsM w0 m c ins lks) (hbd : (c.keys.length ≤ 140737488351232 ∧ ins.length ≤ 140737488351232 ∧ lks.length ≤ 140737488351232 ∧ (∀ i (h : i < c.ins.length), c.ins[i].2.1.length ≤ 140737488351232 ∧ c.ins[i].2.2.length ≤ 140737488351232) ∧ (∀ i (h : i < c.lks.length), c.lks[i].2.1.length ≤ 140737488351232 ∧ c.lks[i].2.2.length ≤ 140737488351232))) (hm1 : mayF c = true) : Ret Try.prog 5 #[.agg (Enc.enc m), sb.v, .int .u16 (k : Int)] w0 (fun r w' => r = .bool true ∧ Bel w0 w') := by
  refine Ret.enter (args := [.agg (Enc.enc m), sb.v, .int .u16 (k : Int)]) Try.func5 rfl Try.ntmps5 Try.results5 rfl ?_
  have hS := St.start w0
  obtain ⟨h1, h2, h3, h4, h5⟩ := hbd
  have hble := hb.le
  simp only [maxLen] at hble
  have hpE : putE c = 0 := if_pos hm1
  have hpL : putL2 c = putF c := if_pos hm1
  have hplen := putF_len c
  have hppos : 0 < (putF c).length := by rw [putF_eq]; simp only [List.length_append, List.length_cons, List.length_nil]; omega
  have hkm := Nat.mod_lt k hppos
  refine WC.seq (fun K1 hK1 => ?_)
  refine WC.region ?_
  refine WL.op rfl (opW.boxA hS rfl ?_)
  intro b3 w _ hS
  refine WL.op rfl (opW.assignB rfl ?_)
  refine WL.nil ?_
  refine thenQ_n (hK1 _ _ ?_)
  refine WC.seq (fun K2 hK2 => ?_)
  refine WC.seq (fun K3 hK3 => ?_)
  refine WC.region ?_
  refine WL.op rfl (opW.loadV rfl (hS.ldA (cs := Enc.enc m) (by first | exact .h0 | exact .h1 | exact .h2 | exact .h3 | exact .h4 | exact .h5 | exact .h6 | exact .h7 | exact .h8 | exact .h9 | exact .h10 | exact .h11 | exact .h12 | exact .h13 | exact .h14) (by exact Enc.size_eq _)) ?_)
  refine WL.op rfl (opW.call (great_ok _ m c ins lks (hc.bel hS.old) h1 h2 h3 h4 h5) rfl ?_)
  rintro _ w ⟨bb, rfl, hbb, hw⟩; replace hS := hS.bel hw
  refine WL.op rfl (opW.moveB rfl ?_)
  refine WL.gd _ 17 _ rfl rfl rfl rfl (fun hg18 => opW.moveV (v := sb.v) rfl ⟨rfl, Bel.refl _⟩) (fun w hw => ?_)
  replace hS := hS.bel hw
  refine WL.gd _ 17 _ rfl rfl rfl rfl (fun hg19 => opW.lenV (by first | exact gv_of rfl hg19 | rfl) ((hb.bel hS.old)) ⟨rfl, Bel.refl _⟩) (fun w hw => ?_)
  replace hS := hS.bel hw
  refine WL.gd _ 17 _ rfl rfl rfl rfl (fun hg20 => opW.gtr (by first | exact gv_of rfl hg20 | rfl) rfl ⟨rfl, Bel.refl _⟩) (fun w hw => ?_)
  replace hS := hS.bel hw
  refine WL.op rfl (opW.pickOr rfl rfl (by first | rfl) ?_)
  refine WL.nil ?_
  refine thenQ_n (hK3 _ _ ?_)
  refine WC.cond _ rfl (fun hc0 => ?_) (fun hc0 => ?_)
  ·
    have hr0 := hc0
    try simp only [decide_eq_true_eq, decide_eq_false_iff_not, Bool.and_eq_true, Bool.or_eq_true, Bool.and_eq_false_iff, Bool.or_eq_false_iff, Bool.not_eq_true', Bool.not_eq_false', Int.not_lt, Int.not_le] at hc0
    refine WC.seq (fun K4 hK4 => ?_)
    refine WC.region ?_
    refine WL.op rfl (opW.call (lives_ok _) rfl ?_)
    rintro _ w ⟨rfl, hw⟩; replace hS := hS.bel hw
    refine WL.op rfl (opW.assignB rfl ?_)
    refine WL.nil ?_
    refine thenQ_n (hK4 _ _ ?_)
    refine WC.ret ?_
    refine thenQ_r ?_
    refine bodyQ_ret (.tmpB rfl .nil) ?_
    exact ⟨rfl, hS.old⟩
  ·
    have hr0 := hc0
    try simp only [decide_eq_true_eq, decide_eq_false_iff_not, Bool.and_eq_true, Bool.or_eq_true, Bool.and_eq_false_iff, Bool.or_eq_false_iff, Bool.not_eq_true', Bool.not_eq_false', Int.not_lt, Int.not_le] at hc0
    have hr00 := hr0
    simp only [Bool.or_eq_false_iff, decide_eq_false_iff_not] at hr00
    have hsz := hbb hr00.1
    have hbl : xs.length ≤ 1000 := by have := hr00.2; omega
    refine WC.skip ?_
    refine thenQ_n (hK2 _ _ ?_)
    refine WC.seq (fun K5 hK5 => ?_)
    refine WC.region ?_
    refine WL.op rfl (opW.loadV rfl (hS.ldA (cs := Enc.enc m) (by first | exact .h0 | exact .h1 | exact .h2 | exact .h3 | exact .h4 | exact .h5 | exact .h6 | exact .h7 | exact .h8 | exact .h9 | exact .h10 | exact .h11 | exact .h12 | exact .h13 | exact .h14) (by exact Enc.size_eq _)) ?_)
    refine WL.op rfl (opW.call (put_any _ m c ins lks (hc.bel hS.old) (by omega)) rfl ?_)
    rintro _ w ⟨v25, rfl, hn25, hw⟩; replace hS := hS.newOwn hw hn25.1 hn25.2
    rw [hpE]
    rw [hpL] at hS
    refine WL.op rfl (opW.moveV (v := .tuple #[v25, .int .i64 0]) rfl ?_)
    refine WL.op rfl (opW.extract rfl rfl ?_)
    refine WL.op rfl (opW.extract rfl rfl ?_)
    refine WL.op rfl (opW.assignV (v := v25) rfl ?_)
    refine WL.op rfl (opW.assignI rfl ?_)
    refine WL.nil ?_
    refine thenQ_n (hK5 _ _ ?_)
    refine WC.seq (fun K6 hK6 => ?_)
    refine WC.seq (fun K7 hK7 => ?_)
    refine WC.region ?_
    refine WL.op rfl (opW.moveI rfl ?_)
    refine WL.op rfl (opW.neq rfl rfl ?_)
    refine WL.nil ?_
    refine thenQ_n (hK7 _ _ ?_)
    refine WC.cond _ rfl (fun hc1 => ?_) (fun hc1 => ?_)
    ·
      have hr1 := hc1
      try simp only [decide_eq_true_eq, decide_eq_false_iff_not, Bool.and_eq_true, Bool.or_eq_true, Bool.and_eq_false_iff, Bool.or_eq_false_iff, Bool.not_eq_true', Bool.not_eq_false', Int.not_lt, Int.not_le] at hc1
      exact absurd hr1 (by decide)
    ·
      have hr1 := hc1
      try simp only [decide_eq_true_eq, decide_eq_false_iff_not, Bool.and_eq_true, Bool.or_eq_true, Bool.and_eq_false_iff, Bool.or_eq_false_iff, Bool.not_eq_true', Bool.not_eq_false', Int.not_lt, Int.not_le] at hc1
      refine WC.skip ?_
      refine thenQ_n (hK6 _ _ ?_)
      refine WC.seq (fun K8 hK8 => ?_)
      refine WC.region ?_
      refine WL.op rfl (opW.moveV (v := v25) rfl ?_)
      refine WL.op rfl (opW.appendNil (α := UInt8) (ys := putF c) rfl hS rfl (hS.sl (v := v25) (xs := putF c) (by first | exact .h0 | exact .h1 | exact .h2 | exact .h3 | exact .h4 | exact .h5 | exact .h6 | exact .h7 | exact .h8 | exact .h9 | exact .h10 | exact .h11 | exact .h12 | exact .h13 | exact .h14)) (by omega) (by simp only [maxLen]; omega) ?_)
      intro v42 w hw hS
      refine WL.op rfl (opW.moveV (v := sb.v) rfl ?_)
      refine WL.op rfl (opW.appendOwn (α := UInt8) (v := v42) (xs := putF c) rfl hS rfl (by first | exact .h0 | exact .h1 | exact .h2 | exact .h3 | exact .h4 | exact .h5 | exact .h6 | exact .h7 | exact .h8 | exact .h9 | exact .h10 | exact .h11 | exact .h12 | exact .h13 | exact .h14) (hb.bel hS.old) (by omega) (by simp only [maxLen]; omega) ?_)
      intro v44 w hS; replace hS := hS _ (by first | exact .h0 | exact .h1 | exact .h2 | exact .h3 | exact .h4 | exact .h5 | exact .h6 | exact .h7 | exact .h8 | exact .h9 | exact .h10 | exact .h11 | exact .h12 | exact .h13 | exact .h14)
      obtain ⟨sy, rfl⟩ := (hS.sl (v := v44) (xs := putF c ++ xs) (by first | exact .h0 | exact .h1 | exact .h2 | exact .h3 | exact .h4 | exact .h5 | exact .h6 | exact .h7 | exact .h8 | exact .h9 | exact .h10 | exact .h11 | exact .h12 | exact .h13 | exact .h14)).asV
      refine WL.op rfl (opW.call (get_ok2 _ sy (putF c ++ xs) (hS.sl (v := sy.v) (xs := putF c ++ xs) (by first | exact .h0 | exact .h1 | exact .h2 | exact .h3 | exact .h4 | exact .h5 | exact .h6 | exact .h7 | exact .h8 | exact .h9 | exact .h10 | exact .h11 | exact .h12 | exact .h13 | exact .h14)) (by rw [List.length_append]; omega) (getF_put hm1 xs)) rfl ?_)
      rintro _ w ⟨m2, is2, ls2, rfl, hgm, hSg⟩
      replace hS := hS.merge hSg
      unfold gotL at hS
      simp only [List.cons_append, List.nil_append] at hS
      refine WL.op rfl (opW.moveV (v := .tuple #[.agg (Enc.enc m2), .int .i64 (((putF c).length : Nat) : Int), .int .i64 0]) rfl ?_)
      refine WL.op rfl (opW.extract rfl rfl ?_)
      refine WL.op rfl (opW.extract rfl rfl ?_)
      refine WL.op rfl (opW.extract rfl rfl ?_)
      refine WL.op rfl (opW.allocA hS ?_)
      intro b9 w _ hS
      refine WL.op0 (opW.storeE (r := m2) hS rfl rfl (by first | exact .h0 | exact .h1 | exact .h2 | exact .h3 | exact .h4 | exact .h5 | exact .h6 | exact .h7 | exact .h8 | exact .h9 | exact .h10 | exact .h11 | exact .h12 | exact .h13 | exact .h14) (by rw [mg_zero2]; exact Enc.size_eq _) ?_)
      intro w hS; replace hS := hS _ (by first | exact .h0 | exact .h1 | exact .h2 | exact .h3 | exact .h4 | exact .h5 | exact .h6 | exact .h7 | exact .h8 | exact .h9 | exact .h10 | exact .h11 | exact .h12 | exact .h13 | exact .h14)
      refine WL.op rfl (opW.assignI rfl ?_)
      refine WL.op rfl (opW.assignI rfl ?_)
      refine WL.nil ?_
      refine thenQ_n (hK8 _ _ ?_)
      refine WC.seq (fun K9 hK9 => ?_)
      refine WC.seq (fun K10 hK10 => ?_)
      refine WC.region ?_
      refine WL.op rfl (opW.moveI rfl ?_)
      refine WL.op rfl (opW.boolF (by decide) (opW.neq rfl rfl ⟨rfl, rfl⟩) ?_)
      refine WL.op rfl (opW.moveB rfl ?_)
      refine WL.gT 51 rfl rfl rfl (WL.op rfl (opW.moveI rfl ?_))
      refine WL.gT 51 rfl rfl rfl (WL.op rfl (opW.moveV (v := v25) rfl ?_))
      refine WL.gT 51 rfl rfl rfl (WL.op rfl (opW.lenV rfl ((hS.sl (v := v25) (xs := putF c) (by first | exact .h0 | exact .h1 | exact .h2 | exact .h3 | exact .h4 | exact .h5 | exact .h6 | exact .h7 | exact .h8 | exact .h9 | exact .h10 | exact .h11 | exact .h12 | exact .h13 | exact .h14))) ?_))
      refine WL.gT 51 rfl rfl rfl (WL.op rfl (opW.boolF (by simp) (opW.neq rfl rfl ⟨rfl, rfl⟩) ?_))
      refine WL.op rfl (opW.pickT rfl rfl ?_)
      refine WL.op rfl (opW.moveB rfl ?_)
      refine WL.gT 57 rfl rfl rfl (WL.op rfl (opW.loadV rfl (hS.ldA (cs := Enc.enc m2) (by first | exact .h0 | exact .h1 | exact .h2 | exact .h3 | exact .h4 | exact .h5 | exact .h6 | exact .h7 | exact .h8 | exact .h9 | exact .h10 | exact .h11 | exact .h12 | exact .h13 | exact .h14) (by exact Enc.size_eq _)) ?_))
      refine WL.gT 57 rfl rfl rfl (WL.op rfl (opW.loadV rfl (hS.ldA (b := b3) (cs := Enc.enc m) (by first | exact .h0 | exact .h1 | exact .h2 | exact .h3 | exact .h4 | exact .h5 | exact .h6 | exact .h7 | exact .h8 | exact .h9 | exact .h10 | exact .h11 | exact .h12 | exact .h13 | exact .h14) (by exact Enc.size_eq _)) ?_))
      refine WL.gT 57 rfl rfl rfl (WL.op rfl (opW.call (sameMsg_ok _ m2 m c c is2 ins ls2 lks (hgm.isM (show St w0 [ownE m2.keys.v 53 c.keys, ownE m2.instrs.v 52 is2, b2E (zipI is2 c.ins), ownE m2.lookups.v 55 ls2, b2E (zipL ls2 c.lks)] _ from hS.sub (by repeat (first | with_reducible exact List.nil_sublist _ | with_reducible exact List.Sublist.refl _ | with_reducible refine List.Sublist.cons₂ _ ?_ | with_reducible refine List.Sublist.cons _ ?_)))) (hc.bel hS.old)) rfl ?_))
      rintro _ w ⟨rfl, hw⟩; replace hS := hS.bel hw
      rw [decide_eq_true (rfl : c = c)]
      refine WL.gT 57 rfl rfl rfl (WL.op rfl (opW.not rfl ?_))
      refine WL.op rfl (opW.pickT rfl rfl ?_)
      refine WL.op rfl (opW.moveB rfl ?_)
      refine WL.gT 63 rfl rfl rfl (WL.op rfl (opW.moveV (v := v25) rfl ?_))
      refine WL.gT 63 rfl rfl rfl (WL.op rfl (opW.lenV rfl ((hS.sl (v := v25) (xs := putF c) (by first | exact .h0 | exact .h1 | exact .h2 | exact .h3 | exact .h4 | exact .h5 | exact .h6 | exact .h7 | exact .h8 | exact .h9 | exact .h10 | exact .h11 | exact .h12 | exact .h13 | exact .h14))) ?_))
      refine WL.gT 63 rfl rfl rfl (WL.op rfl (opW.boolF (decide_eq_false (by omega)) (opW.eql rfl rfl ⟨rfl, rfl⟩) ?_))
      refine WL.op rfl (opW.pickT rfl rfl ?_)
      refine WL.nil ?_
      refine thenQ_n (hK10 _ _ ?_)
      refine WC.cond _ rfl (fun hc2 => ?_) (fun hc2 => ?_)
      ·
        have hr2 := hc2
        try simp only [decide_eq_true_eq, decide_eq_false_iff_not, Bool.and_eq_true, Bool.or_eq_true, Bool.and_eq_false_iff, Bool.or_eq_false_iff, Bool.not_eq_true', Bool.not_eq_false', Int.not_lt, Int.not_le] at hc2
        exact absurd hr2 (by decide)
      ·
        have hr2 := hc2
        try simp only [decide_eq_true_eq, decide_eq_false_iff_not, Bool.and_eq_true, Bool.or_eq_true, Bool.and_eq_false_iff, Bool.or_eq_false_iff, Bool.not_eq_true', Bool.not_eq_false', Int.not_lt, Int.not_le] at hc2
        refine WC.skip ?_
        refine thenQ_n (hK9 _ _ ?_)
        refine WC.seq (fun K11 hK11 => ?_)
        refine WC.region ?_
        refine WL.op rfl (opW.moveV (v := v25) rfl ?_)
        refine WL.op rfl (opW.moveI rfl ?_)
        refine WL.op rfl (opW.conv rfl (wrap_i64 (by omega)) ?_)
        refine WL.op rfl (opW.moveV (v := v25) rfl ?_)
        refine WL.op rfl (opW.lenV rfl ((hS.sl (v := v25) (xs := putF c) (by first | exact .h0 | exact .h1 | exact .h2 | exact .h3 | exact .h4 | exact .h5 | exact .h6 | exact .h7 | exact .h8 | exact .h9 | exact .h10 | exact .h11 | exact .h12 | exact .h13 | exact .h14))) ?_)
        refine WL.op rfl (opW.rem rfl rfl (by omega) (show _ = ((k % (putF c).length : Nat) : Int) from tmod_nat _ _) ?_)
        refine WL.op rfl (opW.cutS (hS.sl (v := v25) (xs := putF c) (by first | exact .h0 | exact .h1 | exact .h2 | exact .h3 | exact .h4 | exact .h5 | exact .h6 | exact .h7 | exact .h8 | exact .h9 | exact .h10 | exact .h11 | exact .h12 | exact .h13 | exact .h14)) (xs := putF c) (l := 0) (h' := k % (putF c).length) (m := capV v25) ⟨rfl, Nat.le_refl _⟩ ⟨⟨_, rfl⟩, by have := (hS.sl (v := v25) (xs := putF c) (by first | exact .h0 | exact .h1 | exact .h2 | exact .h3 | exact .h4 | exact .h5 | exact .h6 | exact .h7 | exact .h8 | exact .h9 | exact .h10 | exact .h11 | exact .h12 | exact .h13 | exact .h14)).cap; omega⟩ ⟨rfl, Nat.zero_le _⟩ ?_)
        have hcs : SlR w (cutV v25 0 (k % (putF c).length) (capV v25) (Enc.sz UInt8)) ((putF c).take (k % (putF c).length)) := by
          have h1 := (hS.sl (v := v25) (xs := putF c) (by first | exact .h0 | exact .h1 | exact .h2 | exact .h3 | exact .h4 | exact .h5 | exact .h6 | exact .h7 | exact .h8 | exact .h9 | exact .h10 | exact .h11 | exact .h12 | exact .h13 | exact .h14)).cut (l := 0) (h := k % (putF c).length) (m := capV v25) (Nat.zero_le _) (by omega) (by have := (hS.sl (v := v25) (xs := putF c) (by first | exact .h0 | exact .h1 | exact .h2 | exact .h3 | exact .h4 | exact .h5 | exact .h6 | exact .h7 | exact .h8 | exact .h9 | exact .h10 | exact .h11 | exact .h12 | exact .h13 | exact .h14)).cap; omega) (Nat.le_refl _)
          rw [List.drop_zero] at h1
          exact h1
        obtain ⟨sz, hsz2⟩ := hcs.asV
        rw [hsz2] at hcs
        show WL _ _ _ _ _ (upd _ _ (cutV v25 0 (k % (putF c).length) (capV v25) (Enc.sz UInt8))) _
        rw [hsz2]
        refine WL.op rfl (opW.call (get_ok2 _ sz ((putF c).take (k % (putF c).length)) hcs (by rw [List.length_take]; omega) (getF_cut hm1 hkm)) rfl ?_)
        rintro _ w ⟨m3, is3, ls3, rfl, hgm3, hSg⟩
        replace hS := hS.merge hSg
        unfold gotL at hS
        simp only [List.cons_append, List.nil_append] at hS
        refine WL.op rfl (opW.moveV (v := .tuple #[.agg (Enc.enc m3), .int .i64 ((0 : Nat) : Int), .int .i64 5]) rfl ?_)
        refine WL.op rfl (opW.extract rfl rfl ?_)
        refine WL.op rfl (opW.extract rfl rfl ?_)
        refine WL.op rfl (opW.extract rfl rfl ?_)
        refine WL.op rfl (opW.allocA hS ?_)
        intro b12 w _ hS
        refine WL.op0 (opW.storeE hS rfl rfl (by first | exact .h0 | exact .h1 | exact .h2 | exact .h3 | exact .h4 | exact .h5 | exact .h6 | exact .h7 | exact .h8 | exact .h9 | exact .h10 | exact .h11 | exact .h12 | exact .h13 | exact .h14) (by first | rfl | exact Enc.size_eq _) ?_)
        intro w hS; replace hS := hS _ (by first | exact .h0 | exact .h1 | exact .h2 | exact .h3 | exact .h4 | exact .h5 | exact .h6 | exact .h7 | exact .h8 | exact .h9 | exact .h10 | exact .h11 | exact .h12 | exact .h13 | exact .h14)
        refine WL.op rfl (opW.assignI rfl ?_)
        refine WL.op rfl (opW.assignI rfl ?_)
        refine WL.nil ?_
        refine thenQ_n (hK11 _ _ ?_)
        refine WC.seq (fun K12 hK12 => ?_)
        refine WC.region ?_
        refine WL.op rfl (opW.moveI rfl ?_)
        refine WL.op rfl (opW.boolT (by decide) (opW.eql rfl rfl ⟨rfl, rfl⟩) ?_)
        refine WL.op rfl (opW.moveB rfl ?_)
        refine WL.gT 82 rfl rfl rfl (WL.op rfl (opW.moveI rfl ?_))
        refine WL.gT 82 rfl rfl rfl (WL.op rfl (opW.boolT (by decide) (opW.eql rfl rfl ⟨rfl, rfl⟩) ?_))
        refine WL.op rfl (opW.pickT rfl rfl ?_)
        refine WL.op rfl (opW.moveB rfl ?_)
        refine WL.gT 86 rfl rfl rfl (WL.op rfl (opW.loadV rfl (hS.ldA (b := b12) (cs := Enc.enc m3) (by first | exact .h0 | exact .h1 | exact .h2 | exact .h3 | exact .h4 | exact .h5 | exact .h6 | exact .h7 | exact .h8 | exact .h9 | exact .h10 | exact .h11 | exact .h12 | exact .h13 | exact .h14) (by exact Enc.size_eq _)) ?_))
        refine WL.gT 86 rfl rfl rfl (WL.op rfl (opW.buildE (r := (⟨false, ⟨0, 0, 0⟩, ⟨none, 0, 0⟩, vz 32, ⟨none, 0, 0⟩, ⟨none, 0, 0⟩⟩ : Message)) (ps := Message.parts (⟨false, ⟨0, 0, 0⟩, ⟨none, 0, 0⟩, vz 32, ⟨none, 0, 0⟩, ⟨none, 0, 0⟩⟩ : Message)) (Message.enc_eq _) (by simp only [enc_vset, enc_vz, Header.enc_eq, Header.parts, Message.parts]; rfl) (by (repeat' (first | exact trivial | refine And.intro ?_ ?_)) <;> first | rfl | exact Enc.size_eq _ | (simp; done)) ?_))
        refine WL.gT 86 rfl rfl rfl (WL.op rfl (opW.call (sameMsg_ok _ m3 (⟨false, ⟨0, 0, 0⟩, ⟨none, 0, 0⟩, vz 32, ⟨none, 0, 0⟩, ⟨none, 0, 0⟩⟩ : Message) zMC zMC is3 [] ls3 [] (hgm3.isM (show St w0 [ownE m3.keys.v 53 zMC.keys, ownE m3.instrs.v 52 is3, b2E (zipI is3 zMC.ins), ownE m3.lookups.v 55 ls3, b2E (zipL ls3 zMC.lks)] _ from hS.sub (by repeat (first | with_reducible exact List.nil_sublist _ | with_reducible exact List.Sublist.refl _ | with_reducible refine List.Sublist.cons₂ _ ?_ | with_reducible refine List.Sublist.cons _ ?_)))) (zIsM _)) rfl ?_))
        rintro _ w ⟨rfl, hw⟩; replace hS := hS.bel hw
        rw [decide_eq_true (rfl : zMC = zMC)]
        refine WL.op rfl (opW.pickT rfl rfl ?_)
        refine WL.op rfl (opW.moveB rfl ?_)
        refine WL.gT 91 rfl rfl rfl (WL.op rfl (opW.call (lives_ok _) rfl ?_))
        rintro _ w ⟨rfl, hw⟩; replace hS := hS.bel hw
        refine WL.op rfl (opW.pickT rfl rfl ?_)
        refine WL.op rfl (opW.assignB rfl ?_)
        refine WL.nil ?_
        refine thenQ_n (hK12 _ _ ?_)
        refine WC.ret ?_
        refine bodyQ_ret (.tmpB rfl .nil) ?_
        exact ⟨rfl, hS.old⟩

theorem back_law (w0 : World) (m : Message) (sb : SlV) (xs : List UInt8) (k : Nat) (hk : k ≤ 65535) (hb : SlR w0 sb.v xs) (hm : m.okz w0) : Ret Try.prog 5 #[.agg (Enc.enc m), sb.v, .int .u16 (k : Int)] w0 (fun r w' => r = .bool true ∧ Bel w0 w') := by
  obtain ⟨c, ins, lks, hc, hbd⟩ := okz_isM hm
  cases h : mayF c with
  | true => exact back_yes w0 m c ins lks sb xs k hk hb hc hbd h
  | false => exact back_no w0 m c ins lks sb xs k hk hb hc hbd h

end Go.Fer
