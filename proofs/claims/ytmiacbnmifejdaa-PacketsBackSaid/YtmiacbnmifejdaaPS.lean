/- PacketsBack -/
import Derived.Test.YtmiacbnmifejdaaPL
import Derived.Test.YtmiacbnmifejdaaPJ
set_option linter.all false
namespace Go.Fer
open Go Go.Proofs Go.RowKit

/-- a transaction that was got, as one entry -/
@[irreducible] def gtE (t : Tx) (is : List Instr) (ls : List Lookup) (x : TC) : Ent := starE (gotTL t is ls x)
theorem St.gtClose {w0 w : World} {S : List Ent} {t : Tx} {is : List Instr} {ls : List Lookup} {x : TC} (h : St w0 (gotTL t is ls x ++ S) w) : St w0 (gtE t is ls x :: S) w := by unfold gtE; exact St.closed h
theorem St.gtOpen {w0 w : World} {S : List Ent} {t : Tx} {is : List Instr} {ls : List Lookup} {x : TC} (h : St w0 (gtE t is ls x :: S) w) : St w0 (gotTL t is ls x ++ S) w := by unfold gtE at h; exact h.opened
theorem St.gtIsT {w0 w : World} {S S' : List Ent} {t : Tx} {is : List Instr} {ls : List Lookup} {x : TC} (h : St w0 S w) (hg : GotT t is ls x) (hp : Pick (gtE t is ls x) S S') : IsT w t x is ls := hg.isT (((h.pick hp).gtOpen).sub (List.sublist_append_left _ _))
theorem St.gtMerge {w0 w1 w : World} {S : List Ent} {t : Tx} {is : List Instr} {ls : List Lookup} {x : TC} (h1 : St w0 S w1) (h2 : St w1 (gotTL t is ls x) w) : St w0 (gtE t is ls x :: S) w := (h1.merge h2).gtClose

set_option maxRecDepth 20000 in
set_option maxHeartbeats 1000000 in
theorem pback_ok (w0 : World) (t : Tx) (x : TC) (ins : List Instr) (lks : List Lookup) (sb : SlV) (xs : List UInt8) (k : Nat) (hk : k ≤ 65535) (hb : SlR w0 sb.v xs) (hx : IsT w0 t x ins lks) (hbd : (x.m.keys.length ≤ 140737488351232 ∧ ins.length ≤ 140737488351232 ∧ lks.length ≤ 140737488351232 ∧ (∀ i (h : i < x.m.ins.length), x.m.ins[i].2.1.length ≤ 140737488351232 ∧ x.m.ins[i].2.2.length ≤ 140737488351232) ∧ (∀ i (h : i < x.m.lks.length), x.m.lks[i].2.1.length ≤ 140737488351232 ∧ x.m.lks[i].2.2.length ≤ 140737488351232))) (hm1 : mayF x.m = true) (hl : (ptB x).length ≤ 1232) : Ret Try.prog 5 #[.agg (Enc.enc t), sb.v, .int .u16 (k : Int)] w0 (fun r w' => r = .bool true ∧ Bel w0 w') := by
  refine Ret.enter (args := [.agg (Enc.enc t), sb.v, .int .u16 (k : Int)]) Try.func5 rfl Try.ntmps5 Try.results5 rfl ?_
  have hS := St.start w0
  have hble := hb.le
  simp only [maxLen] at hble
  have hplen := ptB_len x
  have hpE : ptE x = 0 := by unfold ptE; rw [if_pos hm1, if_neg (by omega)]
  have hpL : ptL x = ptB x := by unfold ptL; rw [if_pos hpE]
  have hppos : 0 < (ptB x).length := by rw [ptB_leq, putF_eq]; simp only [List.length_append, List.length_cons, List.length_nil]; omega
  have hkm := Nat.mod_lt k hppos
  refine WC.seq (fun K1 hK1 => ?_)
  refine WC.region ?_
  refine WL.op rfl (opW.boxA hS rfl ?_)
  intro b3 w _ hS
  refine WL.op rfl (opW.assignB rfl ?_)
  refine WL.nil ?_
  refine thenQ_n (hK1 _ _ ?_)
  refine WC.seq (fun K2 hK2 => ?_)
  refine WC.seq (fun K3 hK3 => ?_)
  refine WC.region ?_
  refine WL.op rfl (opW.loadV rfl (hS.ldA (b := b3) (cs := Enc.enc t) (by first | exact .h0 | exact .h1 | exact .h2 | exact .h3 | exact .h4 | exact .h5 | exact .h6 | exact .h7 | exact .h8 | exact .h9 | exact .h10 | exact .h11 | exact .h12 | exact .h13 | exact .h14) (by exact Enc.size_eq _)) ?_)
  refine WL.op rfl (opW.call (great4_ok _ t x ins lks (hx.bel hS.old) hbd) rfl ?_)
  rintro _ w ⟨bb, rfl, hbb, hw⟩; replace hS := hS.bel hw
  refine WL.op rfl (opW.moveB rfl ?_)
  refine WL.gd _ 21 _ rfl rfl rfl rfl (fun hg22 => opW.moveV (v := sb.v) rfl ⟨rfl, Bel.refl _⟩) (fun w hw => ?_)
  replace hS := hS.bel hw
  refine WL.gd _ 21 _ rfl rfl rfl rfl (fun hg23 => opW.lenV (by first | exact gv_of rfl hg23 | rfl) ((hb.bel hS.old)) ⟨rfl, Bel.refl _⟩) (fun w hw => ?_)
  replace hS := hS.bel hw
  refine WL.gd _ 21 _ rfl rfl rfl rfl (fun hg24 => opW.gtr (by first | exact gv_of rfl hg24 | rfl) rfl ⟨rfl, Bel.refl _⟩) (fun w hw => ?_)
  replace hS := hS.bel hw
  refine WL.op rfl (opW.pickOr rfl rfl (by first | rfl) ?_)
  refine WL.nil ?_
  refine thenQ_n (hK3 _ _ ?_)
  refine WC.cond _ rfl (fun hc0 => ?_) (fun hc0 => ?_)
  ·
    have hr0 := hc0
    try simp only [decide_eq_true_eq, decide_eq_false_iff_not, Bool.and_eq_true, Bool.or_eq_true, Bool.and_eq_false_iff, Bool.or_eq_false_iff, Bool.not_eq_true', Bool.not_eq_false', Int.not_lt, Int.not_le] at hc0
    refine WC.seq (fun K4 hK4 => ?_)
    refine WC.region ?_
    refine WL.op rfl (opW.call (lives4_ok _) rfl ?_)
    rintro _ w ⟨rfl, hw⟩; replace hS := hS.bel hw
    refine WL.op rfl (opW.assignB rfl ?_)
    refine WL.nil ?_
    refine thenQ_n (hK4 _ _ ?_)
    refine WC.ret ?_
    refine thenQ_r ?_
    refine bodyQ_ret (.tmpB rfl .nil) ?_
    exact ⟨rfl, hS.old⟩
  ·
    have hr0 := hc0
    try simp only [decide_eq_true_eq, decide_eq_false_iff_not, Bool.and_eq_true, Bool.or_eq_true, Bool.and_eq_false_iff, Bool.or_eq_false_iff, Bool.not_eq_true', Bool.not_eq_false', Int.not_lt, Int.not_le] at hc0
    have hr00 := hr0
    simp only [Bool.or_eq_false_iff, decide_eq_false_iff_not] at hr00
    have hsg := (hbb hr00.1).1
    have hsz := (hbb hr00.1).2
    have hbl : xs.length ≤ 1000 := by have := hr00.2; omega
    refine WC.skip ?_
    refine thenQ_n (hK2 _ _ ?_)
    refine WC.seq (fun K5 hK5 => ?_)
    refine WC.region ?_
    refine WL.op rfl (opW.loadV rfl (hS.ldA (b := b3) (cs := Enc.enc t) (by first | exact .h0 | exact .h1 | exact .h2 | exact .h3 | exact .h4 | exact .h5 | exact .h6 | exact .h7 | exact .h8 | exact .h9 | exact .h10 | exact .h11 | exact .h12 | exact .h13 | exact .h14) (by exact Enc.size_eq _)) ?_)
    refine WL.op rfl (opW.call (pput_ok _ t x ins lks (hx.bel hS.old) (by omega) (by omega)) rfl ?_)
    rintro _ w ⟨v29, rfl, hn29, hw, hc29⟩; replace hS := hS.newOwn hw hn29.1 hn29.2
    rw [hpE]
    rw [hpL] at hS
    obtain ⟨s29, rfl⟩ := (hS.sl (v := v29) (xs := ptB x) (by first | exact .h0 | exact .h1 | exact .h2 | exact .h3 | exact .h4 | exact .h5 | exact .h6 | exact .h7 | exact .h8 | exact .h9 | exact .h10 | exact .h11 | exact .h12 | exact .h13 | exact .h14)).asV
    have hwp := whF_put hm1 (by omega) hl
    have hgp := gtF_put hm1 (by omega) xs
    have hw1 := whF_put1 hm1 (by omega) hl 0
    have hwc := whF_cut hm1 (by omega) hl hkm
    obtain ⟨e4, he4⟩ : ∃ e4 : Int, e4 = if (ptB x).length = 1232 then 3 else 4 := ⟨_, rfl⟩
    rw [← he4] at hw1
    refine WL.op rfl (opW.moveV (v := .tuple #[s29.v, .int .i64 0]) rfl ?_)
    refine WL.op rfl (opW.extract rfl rfl ?_)
    refine WL.op rfl (opW.extract rfl rfl ?_)
    refine WL.op rfl (opW.assignV (v := s29.v) rfl ?_)
    refine WL.op rfl (opW.assignI rfl ?_)
    refine WL.nil ?_
    refine thenQ_n (hK5 _ _ ?_)
    refine WC.seq (fun K6 hK6 => ?_)
    refine WC.seq (fun K7 hK7 => ?_)
    refine WC.region ?_
    refine WL.op rfl (opW.moveI rfl ?_)
    refine WL.op rfl (opW.neq rfl rfl ?_)
    refine WL.nil ?_
    refine thenQ_n (hK7 _ _ ?_)
    refine WC.cond _ rfl (fun hc1 => ?_) (fun hc1 => ?_)
    ·
      have hr1 := hc1
      try simp only [decide_eq_true_eq, decide_eq_false_iff_not, Bool.and_eq_true, Bool.or_eq_true, Bool.and_eq_false_iff, Bool.or_eq_false_iff, Bool.not_eq_true', Bool.not_eq_false', Int.not_lt, Int.not_le] at hc1
      exact absurd hr1 (by decide)
    ·
      have hr1 := hc1
      try simp only [decide_eq_true_eq, decide_eq_false_iff_not, Bool.and_eq_true, Bool.or_eq_true, Bool.and_eq_false_iff, Bool.or_eq_false_iff, Bool.not_eq_true', Bool.not_eq_false', Int.not_lt, Int.not_le] at hc1
      refine WC.skip ?_
      refine thenQ_n (hK6 _ _ ?_)
      refine WC.seq (fun K8 hK8 => ?_)
      refine WC.region ?_
      refine WL.op rfl (opW.moveV (v := s29.v) rfl ?_)
      refine WL.op rfl (opW.call (whole_ok _ s29 (ptB x) (hS.sl (v := s29.v) (xs := ptB x) (by first | exact .h0 | exact .h1 | exact .h2 | exact .h3 | exact .h4 | exact .h5 | exact .h6 | exact .h7 | exact .h8 | exact .h9 | exact .h10 | exact .h11 | exact .h12 | exact .h13 | exact .h14)) (by omega)) rfl ?_)
      rintro _ w hgr
      obtain ⟨x9, i9, l9, rfl, hg9, hSg⟩ := gotWR_of hgr hwp
      replace hS := hS.gtMerge hSg
      refine WL.op rfl (opW.moveV (v := .tuple #[.agg (Enc.enc x9), .int .i64 0]) rfl ?_)
      refine WL.op rfl (opW.extract rfl rfl ?_)
      refine WL.op rfl (opW.extract rfl rfl ?_)
      refine WL.op rfl (opW.allocA hS ?_)
      intro b9 w _ hS
      refine WL.op0 (opW.storeE (b := b9) (r := x9) hS rfl rfl (by first | exact .h0 | exact .h1 | exact .h2 | exact .h3 | exact .h4 | exact .h5 | exact .h6 | exact .h7 | exact .h8 | exact .h9 | exact .h10 | exact .h11 | exact .h12 | exact .h13 | exact .h14) (by rw [tx_zero]; exact Enc.size_eq _) ?_)
      intro w hS; replace hS := hS _ (by first | exact .h0 | exact .h1 | exact .h2 | exact .h3 | exact .h4 | exact .h5 | exact .h6 | exact .h7 | exact .h8 | exact .h9 | exact .h10 | exact .h11 | exact .h12 | exact .h13 | exact .h14)
      refine WL.op rfl (opW.assignI rfl ?_)
      refine WL.nil ?_
      refine thenQ_n (hK8 _ _ ?_)
      refine WC.seq (fun K9 hK9 => ?_)
      refine WC.region ?_
      refine WL.op rfl (opW.moveV (v := s29.v) rfl ?_)
      refine WL.op rfl (opW.appendNil (α := UInt8) (ys := ptB x) rfl hS rfl (hS.sl (v := s29.v) (xs := ptB x) (by first | exact .h0 | exact .h1 | exact .h2 | exact .h3 | exact .h4 | exact .h5 | exact .h6 | exact .h7 | exact .h8 | exact .h9 | exact .h10 | exact .h11 | exact .h12 | exact .h13 | exact .h14)) (by omega) (by simp only [maxLen]; omega) ?_)
      intro v55 w hw hS
      refine WL.op rfl (opW.moveV (v := sb.v) rfl ?_)
      refine WL.op rfl (opW.appendOwn (α := UInt8) (v := v55) (xs := ptB x) rfl hS rfl (by first | exact .h0 | exact .h1 | exact .h2 | exact .h3 | exact .h4 | exact .h5 | exact .h6 | exact .h7 | exact .h8 | exact .h9 | exact .h10 | exact .h11 | exact .h12 | exact .h13 | exact .h14) (hb.bel hS.old) (by omega) (by simp only [maxLen]; omega) ?_)
      intro v57 w hS; replace hS := hS _ (by first | exact .h0 | exact .h1 | exact .h2 | exact .h3 | exact .h4 | exact .h5 | exact .h6 | exact .h7 | exact .h8 | exact .h9 | exact .h10 | exact .h11 | exact .h12 | exact .h13 | exact .h14)
      obtain ⟨s57, rfl⟩ := (hS.sl (v := v57) (xs := ptB x ++ xs) (by first | exact .h0 | exact .h1 | exact .h2 | exact .h3 | exact .h4 | exact .h5 | exact .h6 | exact .h7 | exact .h8 | exact .h9 | exact .h10 | exact .h11 | exact .h12 | exact .h13 | exact .h14)).asV
      refine WL.op rfl (opW.call (gget_ok _ s57 (ptB x ++ xs) (hS.sl (v := s57.v) (xs := ptB x ++ xs) (by first | exact .h0 | exact .h1 | exact .h2 | exact .h3 | exact .h4 | exact .h5 | exact .h6 | exact .h7 | exact .h8 | exact .h9 | exact .h10 | exact .h11 | exact .h12 | exact .h13 | exact .h14)) (by rw [List.length_append]; omega)) rfl ?_)
      rintro _ w hgr
      obtain ⟨x11, i11, l11, rfl, hg11, hSg⟩ := gotTR_of hgr hgp
      replace hS := hS.gtMerge hSg
      refine WL.op rfl (opW.moveV (v := .tuple #[.agg (Enc.enc x11), .int .i64 (((ptB x).length : Nat) : Int), .int .i64 0]) rfl ?_)
      refine WL.op rfl (opW.extract rfl rfl ?_)
      refine WL.op rfl (opW.extract rfl rfl ?_)
      refine WL.op rfl (opW.extract rfl rfl ?_)
      refine WL.op rfl (opW.allocA hS ?_)
      intro b11 w _ hS
      refine WL.op0 (opW.storeE (b := b11) (r := x11) hS rfl rfl (by first | exact .h0 | exact .h1 | exact .h2 | exact .h3 | exact .h4 | exact .h5 | exact .h6 | exact .h7 | exact .h8 | exact .h9 | exact .h10 | exact .h11 | exact .h12 | exact .h13 | exact .h14) (by rw [tx_zero]; exact Enc.size_eq _) ?_)
      intro w hS; replace hS := hS _ (by first | exact .h0 | exact .h1 | exact .h2 | exact .h3 | exact .h4 | exact .h5 | exact .h6 | exact .h7 | exact .h8 | exact .h9 | exact .h10 | exact .h11 | exact .h12 | exact .h13 | exact .h14)
      refine WL.op rfl (opW.assignI rfl ?_)
      refine WL.op rfl (opW.assignI rfl ?_)
      refine WL.nil ?_
      refine thenQ_n (hK9 _ _ ?_)
      refine WC.seq (fun K10 hK10 => ?_)
      refine WC.seq (fun K11 hK11 => ?_)
      refine WC.region ?_
      refine WL.op rfl (opW.moveI rfl ?_)
      refine WL.op rfl (opW.boolF (by decide) (opW.neq rfl rfl ⟨rfl, rfl⟩) ?_)
      refine WL.op rfl (opW.moveB rfl ?_)
      refine WL.gT 64 rfl rfl rfl (WL.op rfl (opW.moveI rfl ?_))
      refine WL.gT 64 rfl rfl rfl (WL.op rfl (opW.boolF (by decide) (opW.neq rfl rfl ⟨rfl, rfl⟩) ?_))
      refine WL.op rfl (opW.pickT rfl rfl ?_)
      refine WL.op rfl (opW.moveB rfl ?_)
      refine WL.gT 68 rfl rfl rfl (WL.op rfl (opW.moveI rfl ?_))
      refine WL.gT 68 rfl rfl rfl (WL.op rfl (opW.moveV (v := s29.v) rfl ?_))
      refine WL.gT 68 rfl rfl rfl (WL.op rfl (opW.lenV rfl ((hS.sl (v := s29.v) (xs := ptB x) (by first | exact .h0 | exact .h1 | exact .h2 | exact .h3 | exact .h4 | exact .h5 | exact .h6 | exact .h7 | exact .h8 | exact .h9 | exact .h10 | exact .h11 | exact .h12 | exact .h13 | exact .h14))) ?_))
      refine WL.gT 68 rfl rfl rfl (WL.op rfl (opW.boolF (by simp) (opW.neq rfl rfl ⟨rfl, rfl⟩) ?_))
      refine WL.op rfl (opW.pickT rfl rfl ?_)
      refine WL.op rfl (opW.moveB rfl ?_)
      refine WL.gT 74 rfl rfl rfl (WL.op rfl (opW.loadV rfl (hS.ldA (b := b3) (cs := Enc.enc t) (by first | exact .h0 | exact .h1 | exact .h2 | exact .h3 | exact .h4 | exact .h5 | exact .h6 | exact .h7 | exact .h8 | exact .h9 | exact .h10 | exact .h11 | exact .h12 | exact .h13 | exact .h14) (by exact Enc.size_eq _)) ?_))
      refine WL.gT 74 rfl rfl rfl (WL.op rfl (opW.loadV rfl (hS.ldA (b := b9) (cs := Enc.enc x9) (by first | exact .h0 | exact .h1 | exact .h2 | exact .h3 | exact .h4 | exact .h5 | exact .h6 | exact .h7 | exact .h8 | exact .h9 | exact .h10 | exact .h11 | exact .h12 | exact .h13 | exact .h14) (by exact Enc.size_eq _)) ?_))
      refine WL.gT 74 rfl rfl rfl (WL.op rfl (opW.call (sameTx_ok _ t x9 x x ins i9 lks l9 (hx.bel hS.old) (hS.gtIsT hg9 (by first | exact .h0 | exact .h1 | exact .h2 | exact .h3 | exact .h4 | exact .h5 | exact .h6 | exact .h7 | exact .h8 | exact .h9 | exact .h10 | exact .h11 | exact .h12 | exact .h13 | exact .h14))) rfl ?_))
      rintro _ w ⟨rfl, hw⟩; replace hS := hS.bel hw
      rw [decide_eq_true (rfl : x = x)]
      refine WL.gT 74 rfl rfl rfl (WL.op rfl (opW.not rfl ?_))
      refine WL.op rfl (opW.pickT rfl rfl ?_)
      refine WL.op rfl (opW.moveB rfl ?_)
      refine WL.gT 80 rfl rfl rfl (WL.op rfl (opW.loadV rfl (hS.ldA (b := b3) (cs := Enc.enc t) (by first | exact .h0 | exact .h1 | exact .h2 | exact .h3 | exact .h4 | exact .h5 | exact .h6 | exact .h7 | exact .h8 | exact .h9 | exact .h10 | exact .h11 | exact .h12 | exact .h13 | exact .h14) (by exact Enc.size_eq _)) ?_))
      refine WL.gT 80 rfl rfl rfl (WL.op rfl (opW.loadV rfl (hS.ldA (b := b11) (cs := Enc.enc x11) (by first | exact .h0 | exact .h1 | exact .h2 | exact .h3 | exact .h4 | exact .h5 | exact .h6 | exact .h7 | exact .h8 | exact .h9 | exact .h10 | exact .h11 | exact .h12 | exact .h13 | exact .h14) (by exact Enc.size_eq _)) ?_))
      refine WL.gT 80 rfl rfl rfl (WL.op rfl (opW.call (sameTx_ok _ t x11 x x ins i11 lks l11 (hx.bel hS.old) (hS.gtIsT hg11 (by first | exact .h0 | exact .h1 | exact .h2 | exact .h3 | exact .h4 | exact .h5 | exact .h6 | exact .h7 | exact .h8 | exact .h9 | exact .h10 | exact .h11 | exact .h12 | exact .h13 | exact .h14))) rfl ?_))
      rintro _ w ⟨rfl, hw⟩; replace hS := hS.bel hw
      rw [decide_eq_true (rfl : x = x)]
      refine WL.gT 80 rfl rfl rfl (WL.op rfl (opW.not rfl ?_))
      refine WL.op rfl (opW.pickT rfl rfl ?_)
      refine WL.op rfl (opW.moveB rfl ?_)
      refine WL.gT 86 rfl rfl rfl (WL.op rfl (opW.moveV (v := s29.v) rfl ?_))
      refine WL.gT 86 rfl rfl rfl (WL.op rfl (opW.lenV rfl ((hS.sl (v := s29.v) (xs := ptB x) (by first | exact .h0 | exact .h1 | exact .h2 | exact .h3 | exact .h4 | exact .h5 | exact .h6 | exact .h7 | exact .h8 | exact .h9 | exact .h10 | exact .h11 | exact .h12 | exact .h13 | exact .h14))) ?_))
      refine WL.gT 86 rfl rfl rfl (WL.op rfl (opW.boolF (decide_eq_false (by omega)) (opW.gtr rfl rfl ⟨rfl, rfl⟩) ?_))
      refine WL.op rfl (opW.pickT rfl rfl ?_)
      refine WL.op rfl (opW.moveB rfl ?_)
      refine WL.gT 91 rfl rfl rfl (WL.op rfl (opW.moveV (v := s29.v) rfl ?_))
      refine WL.gT 91 rfl rfl rfl (WL.op rfl (opW.lenV rfl ((hS.sl (v := s29.v) (xs := ptB x) (by first | exact .h0 | exact .h1 | exact .h2 | exact .h3 | exact .h4 | exact .h5 | exact .h6 | exact .h7 | exact .h8 | exact .h9 | exact .h10 | exact .h11 | exact .h12 | exact .h13 | exact .h14))) ?_))
      refine WL.gT 91 rfl rfl rfl (WL.op rfl (opW.boolF (decide_eq_false (by omega)) (opW.eql rfl rfl ⟨rfl, rfl⟩) ?_))
      refine WL.op rfl (opW.pickT rfl rfl ?_)
      refine WL.nil ?_
      refine thenQ_n (hK11 _ _ ?_)
      refine WC.cond _ rfl (fun hc2 => ?_) (fun hc2 => ?_)
      ·
        have hr2 := hc2
        try simp only [decide_eq_true_eq, decide_eq_false_iff_not, Bool.and_eq_true, Bool.or_eq_true, Bool.and_eq_false_iff, Bool.or_eq_false_iff, Bool.not_eq_true', Bool.not_eq_false', Int.not_lt, Int.not_le] at hc2
        exact absurd hr2 (by decide)
      ·
        have hr2 := hc2
        try simp only [decide_eq_true_eq, decide_eq_false_iff_not, Bool.and_eq_true, Bool.or_eq_true, Bool.and_eq_false_iff, Bool.or_eq_false_iff, Bool.not_eq_true', Bool.not_eq_false', Int.not_lt, Int.not_le] at hc2
        refine WC.skip ?_
        refine thenQ_n (hK10 _ _ ?_)
        refine WC.seq (fun K12 hK12 => ?_)
        refine WC.region ?_
        refine WL.op rfl (opW.moveV (v := s29.v) rfl ?_)
        refine WL.op rfl (opW.appendNil (α := UInt8) (ys := ptB x) rfl hS rfl (hS.sl (v := s29.v) (xs := ptB x) (by first | exact .h0 | exact .h1 | exact .h2 | exact .h3 | exact .h4 | exact .h5 | exact .h6 | exact .h7 | exact .h8 | exact .h9 | exact .h10 | exact .h11 | exact .h12 | exact .h13 | exact .h14)) (by omega) (by simp only [maxLen]; omega) ?_)
        intro v98 w hw hS
        refine WL.op rfl (opW.buildSl hS (([0] : List UInt8)) [.int .u8 0] rfl rfl rfl rfl (by decide) ?_)
        intro b99 w hw hS
        refine WL.op rfl (opW.appendOwn (α := UInt8) (v := v98) (xs := ptB x) rfl hS rfl (by first | exact .h0 | exact .h1 | exact .h2 | exact .h3 | exact .h4 | exact .h5 | exact .h6 | exact .h7 | exact .h8 | exact .h9 | exact .h10 | exact .h11 | exact .h12 | exact .h13 | exact .h14) (hS.sl (v := .slice (some ⟨b99, 0, none⟩) 1 1) (xs := [0]) (by first | exact .h0 | exact .h1 | exact .h2 | exact .h3 | exact .h4 | exact .h5 | exact .h6 | exact .h7 | exact .h8 | exact .h9 | exact .h10 | exact .h11 | exact .h12 | exact .h13 | exact .h14)) (by simp only [List.length_cons, List.length_nil]; omega) (by simp only [maxLen, List.length_cons, List.length_nil]; omega) ?_)
        intro v100 w hS; replace hS := hS _ (by first | exact .h0 | exact .h1 | exact .h2 | exact .h3 | exact .h4 | exact .h5 | exact .h6 | exact .h7 | exact .h8 | exact .h9 | exact .h10 | exact .h11 | exact .h12 | exact .h13 | exact .h14)
        obtain ⟨s100, rfl⟩ := (hS.sl (v := v100) (xs := ptB x ++ [0]) (by first | exact .h0 | exact .h1 | exact .h2 | exact .h3 | exact .h4 | exact .h5 | exact .h6 | exact .h7 | exact .h8 | exact .h9 | exact .h10 | exact .h11 | exact .h12 | exact .h13 | exact .h14)).asV
        refine WL.op rfl (opW.call (whole_ok _ s100 (ptB x ++ [0]) (hS.sl (v := s100.v) (xs := ptB x ++ [0]) (by first | exact .h0 | exact .h1 | exact .h2 | exact .h3 | exact .h4 | exact .h5 | exact .h6 | exact .h7 | exact .h8 | exact .h9 | exact .h10 | exact .h11 | exact .h12 | exact .h13 | exact .h14)) (by rw [List.length_append, List.length_singleton]; omega)) rfl ?_)
        rintro _ w hgr
        obtain ⟨x14, i14, l14, rfl, hg14, hSg⟩ := gotWR_of hgr hw1
        replace hS := hS.gtMerge hSg
        refine WL.op rfl (opW.moveV (v := .tuple #[.agg (Enc.enc x14), .int .i64 e4]) rfl ?_)
        refine WL.op rfl (opW.extract rfl rfl ?_)
        refine WL.op rfl (opW.extract rfl rfl ?_)
        refine WL.op rfl (opW.allocA hS ?_)
        intro b14 w _ hS
        refine WL.op0 (opW.storeE (b := b14) (r := x14) hS rfl rfl (by first | exact .h0 | exact .h1 | exact .h2 | exact .h3 | exact .h4 | exact .h5 | exact .h6 | exact .h7 | exact .h8 | exact .h9 | exact .h10 | exact .h11 | exact .h12 | exact .h13 | exact .h14) (by rw [tx_zero]; exact Enc.size_eq _) ?_)
        intro w hS; replace hS := hS _ (by first | exact .h0 | exact .h1 | exact .h2 | exact .h3 | exact .h4 | exact .h5 | exact .h6 | exact .h7 | exact .h8 | exact .h9 | exact .h10 | exact .h11 | exact .h12 | exact .h13 | exact .h14)
        refine WL.op rfl (opW.assignI rfl ?_)
        refine WL.nil ?_
        refine thenQ_n (hK12 _ _ ?_)
        refine WC.seq (fun K13 hK13 => ?_)
        refine WC.region ?_
        refine WL.op rfl (opW.moveV (v := s29.v) rfl ?_)
        refine WL.op rfl (opW.moveI rfl ?_)
        refine WL.op rfl (opW.conv rfl (wrap_i64 (by omega)) ?_)
        refine WL.op rfl (opW.moveV (v := s29.v) rfl ?_)
        refine WL.op rfl (opW.lenV rfl ((hS.sl (v := s29.v) (xs := ptB x) (by first | exact .h0 | exact .h1 | exact .h2 | exact .h3 | exact .h4 | exact .h5 | exact .h6 | exact .h7 | exact .h8 | exact .h9 | exact .h10 | exact .h11 | exact .h12 | exact .h13 | exact .h14))) ?_)
        refine WL.op rfl (opW.rem rfl rfl (by omega) (show _ = ((k % (ptB x).length : Nat) : Int) from tmod_nat _ _) ?_)
        refine WL.op rfl (opW.cutS (hS.sl (v := s29.v) (xs := ptB x) (by first | exact .h0 | exact .h1 | exact .h2 | exact .h3 | exact .h4 | exact .h5 | exact .h6 | exact .h7 | exact .h8 | exact .h9 | exact .h10 | exact .h11 | exact .h12 | exact .h13 | exact .h14)) (xs := ptB x) (l := 0) (h' := k % (ptB x).length) (m := capV s29.v) ⟨rfl, Nat.le_refl _⟩ ⟨⟨_, rfl⟩, by have := (hS.sl (v := s29.v) (xs := ptB x) (by first | exact .h0 | exact .h1 | exact .h2 | exact .h3 | exact .h4 | exact .h5 | exact .h6 | exact .h7 | exact .h8 | exact .h9 | exact .h10 | exact .h11 | exact .h12 | exact .h13 | exact .h14)).cap; omega⟩ ⟨rfl, Nat.zero_le _⟩ ?_)
        have hcs : SlR w (cutV s29.v 0 (k % (ptB x).length) (capV s29.v) (Enc.sz UInt8)) ((ptB x).take (k % (ptB x).length)) := by
          have h1 := (hS.sl (v := s29.v) (xs := ptB x) (by first | exact .h0 | exact .h1 | exact .h2 | exact .h3 | exact .h4 | exact .h5 | exact .h6 | exact .h7 | exact .h8 | exact .h9 | exact .h10 | exact .h11 | exact .h12 | exact .h13 | exact .h14)).cut (l := 0) (h := k % (ptB x).length) (m := capV s29.v) (Nat.zero_le _) (by omega) (by have := (hS.sl (v := s29.v) (xs := ptB x) (by first | exact .h0 | exact .h1 | exact .h2 | exact .h3 | exact .h4 | exact .h5 | exact .h6 | exact .h7 | exact .h8 | exact .h9 | exact .h10 | exact .h11 | exact .h12 | exact .h13 | exact .h14)).cap; omega) (Nat.le_refl _)
          rw [List.drop_zero] at h1
          exact h1
        obtain ⟨sz, hsz2⟩ := hcs.asV
        rw [hsz2] at hcs
        show WL _ _ _ _ _ (upd _ _ (cutV s29.v 0 (k % (ptB x).length) (capV s29.v) (Enc.sz UInt8))) _
        rw [hsz2]
        refine WL.op rfl (opW.call (whole_ok _ sz ((ptB x).take (k % (ptB x).length)) hcs (by rw [List.length_take]; omega)) rfl ?_)
        rintro _ w hgr
        obtain ⟨x16, i16, l16, rfl, hg16, hSg⟩ := gotWR_of hgr hwc
        replace hS := hS.gtMerge hSg
        refine WL.op rfl (opW.moveV (v := .tuple #[.agg (Enc.enc x16), .int .i64 5]) rfl ?_)
        refine WL.op rfl (opW.extract rfl rfl ?_)
        refine WL.op rfl (opW.extract rfl rfl ?_)
        refine WL.op rfl (opW.allocA hS ?_)
        intro b16 w _ hS
        refine WL.op0 (opW.storeE (b := b16) (r := x16) hS rfl rfl (by first | exact .h0 | exact .h1 | exact .h2 | exact .h3 | exact .h4 | exact .h5 | exact .h6 | exact .h7 | exact .h8 | exact .h9 | exact .h10 | exact .h11 | exact .h12 | exact .h13 | exact .h14) (by rw [tx_zero]; exact Enc.size_eq _) ?_)
        intro w hS; replace hS := hS _ (by first | exact .h0 | exact .h1 | exact .h2 | exact .h3 | exact .h4 | exact .h5 | exact .h6 | exact .h7 | exact .h8 | exact .h9 | exact .h10 | exact .h11 | exact .h12 | exact .h13 | exact .h14)
        refine WL.op rfl (opW.assignI rfl ?_)
        refine WL.nil ?_
        refine thenQ_n (hK13 _ _ ?_)
        refine WC.seq (fun K14 hK14 => ?_)
        refine WC.region ?_
        refine WL.op rfl (opW.assignI rfl ?_)
        refine WL.nil ?_
        refine thenQ_n (hK14 _ _ ?_)
        refine WC.seq (fun K15 hK15 => ?_)
        refine WC.seq (fun K16 hK16 => ?_)
        refine WC.region ?_
        refine WL.op rfl (opW.moveV (v := s29.v) rfl ?_)
        refine WL.op rfl (opW.lenV rfl ((hS.sl (v := s29.v) (xs := ptB x) (by first | exact .h0 | exact .h1 | exact .h2 | exact .h3 | exact .h4 | exact .h5 | exact .h6 | exact .h7 | exact .h8 | exact .h9 | exact .h10 | exact .h11 | exact .h12 | exact .h13 | exact .h14))) ?_)
        refine WL.op rfl (opW.eql rfl rfl ?_)
        refine WL.nil ?_
        refine thenQ_n (hK16 _ _ ?_)
        refine WC.cond _ rfl (fun hc3 => ?_) (fun hc3 => ?_)
        ·
          have hr3 := hc3
          try simp only [decide_eq_true_eq, decide_eq_false_iff_not, Bool.and_eq_true, Bool.or_eq_true, Bool.and_eq_false_iff, Bool.or_eq_false_iff, Bool.not_eq_true', Bool.not_eq_false', Int.not_lt, Int.not_le] at hc3
          have h1232 : (ptB x).length = 1232 := by simp at hr3; omega
          rw [if_pos h1232] at he4
          subst he4
          refine WC.region ?_
          refine WL.op rfl (opW.assignI rfl ?_)
          refine WL.nil ?_
          refine thenQ_n (hK15 _ _ ?_)
          refine WC.seq (fun K17 hK17 => ?_)
          refine WC.region ?_
          refine WL.op rfl (opW.moveI rfl ?_)
          refine WL.op rfl (opW.moveI rfl ?_)
          refine WL.op rfl (opW.boolT (by decide) (opW.eql rfl rfl ⟨rfl, rfl⟩) ?_)
          refine WL.op rfl (opW.moveB rfl ?_)
          refine WL.gT 121 rfl rfl rfl (WL.op rfl (opW.moveI rfl ?_))
          refine WL.gT 121 rfl rfl rfl (WL.op rfl (opW.boolT (by decide) (opW.eql rfl rfl ⟨rfl, rfl⟩) ?_))
          refine WL.op rfl (opW.pickT rfl rfl ?_)
          refine WL.op rfl (opW.moveB rfl ?_)
          refine WL.gT 125 rfl rfl rfl (WL.op rfl (opW.call (lives4_ok _) rfl ?_))
          rintro _ w ⟨rfl, hw⟩; replace hS := hS.bel hw
          refine WL.op rfl (opW.pickT rfl rfl ?_)
          refine WL.op rfl (opW.assignB rfl ?_)
          refine WL.nil ?_
          refine thenQ_n (hK17 _ _ ?_)
          refine WC.ret ?_
          refine bodyQ_ret (.tmpB rfl .nil) ?_
          exact ⟨rfl, hS.old⟩
        ·
          have hr3 := hc3
          try simp only [decide_eq_true_eq, decide_eq_false_iff_not, Bool.and_eq_true, Bool.or_eq_true, Bool.and_eq_false_iff, Bool.or_eq_false_iff, Bool.not_eq_true', Bool.not_eq_false', Int.not_lt, Int.not_le] at hc3
          have h1232 : ¬ (ptB x).length = 1232 := by simp at hr3; omega
          rw [if_neg h1232] at he4
          subst he4
          refine WC.skip ?_
          refine thenQ_n (hK15 _ _ ?_)
          refine WC.seq (fun K18 hK18 => ?_)
          refine WC.region ?_
          refine WL.op rfl (opW.moveI rfl ?_)
          refine WL.op rfl (opW.moveI rfl ?_)
          refine WL.op rfl (opW.boolT (by decide) (opW.eql rfl rfl ⟨rfl, rfl⟩) ?_)
          refine WL.op rfl (opW.moveB rfl ?_)
          refine WL.gT 121 rfl rfl rfl (WL.op rfl (opW.moveI rfl ?_))
          refine WL.gT 121 rfl rfl rfl (WL.op rfl (opW.boolT (by decide) (opW.eql rfl rfl ⟨rfl, rfl⟩) ?_))
          refine WL.op rfl (opW.pickT rfl rfl ?_)
          refine WL.op rfl (opW.moveB rfl ?_)
          refine WL.gT 125 rfl rfl rfl (WL.op rfl (opW.call (lives4_ok _) rfl ?_))
          rintro _ w ⟨rfl, hw⟩; replace hS := hS.bel hw
          refine WL.op rfl (opW.pickT rfl rfl ?_)
          refine WL.op rfl (opW.assignB rfl ?_)
          refine WL.nil ?_
          refine thenQ_n (hK18 _ _ ?_)
          refine WC.ret ?_
          refine bodyQ_ret (.tmpB rfl .nil) ?_
          exact ⟨rfl, hS.old⟩

set_option maxRecDepth 20000 in
set_option maxHeartbeats 1000000 in
theorem pback_1 (w0 : World) (t : Tx) (x : TC) (ins : List Instr) (lks : List Lookup) (sb : SlV) (xs : List UInt8) (k : Nat) (hk : k ≤ 65535) (hb : SlR w0 sb.v xs) (hx : IsT w0 t x ins lks) (hbd : (x.m.keys.length ≤ 140737488351232 ∧ ins.length ≤ 140737488351232 ∧ lks.length ≤ 140737488351232 ∧ (∀ i (h : i < x.m.ins.length), x.m.ins[i].2.1.length ≤ 140737488351232 ∧ x.m.ins[i].2.2.length ≤ 140737488351232) ∧ (∀ i (h : i < x.m.lks.length), x.m.lks[i].2.1.length ≤ 140737488351232 ∧ x.m.lks[i].2.2.length ≤ 140737488351232))) (hpE : ptE x = 1) : Ret Try.prog 5 #[.agg (Enc.enc t), sb.v, .int .u16 (k : Int)] w0 (fun r w' => r = .bool true ∧ Bel w0 w') := by
  refine Ret.enter (args := [.agg (Enc.enc t), sb.v, .int .u16 (k : Int)]) Try.func5 rfl Try.ntmps5 Try.results5 rfl ?_
  have hS := St.start w0
  have hble := hb.le
  simp only [maxLen] at hble
  have hpL : ptL x = [] := by unfold ptL; rw [if_neg (by rw [hpE]; decide)]
  refine WC.seq (fun K1 hK1 => ?_)
  refine WC.region ?_
  refine WL.op rfl (opW.boxA hS rfl ?_)
  intro b3 w _ hS
  refine WL.op rfl (opW.assignB rfl ?_)
  refine WL.nil ?_
  refine thenQ_n (hK1 _ _ ?_)
  refine WC.seq (fun K2 hK2 => ?_)
  refine WC.seq (fun K3 hK3 => ?_)
  refine WC.region ?_
  refine WL.op rfl (opW.loadV rfl (hS.ldA (b := b3) (cs := Enc.enc t) (by first | exact .h0 | exact .h1 | exact .h2 | exact .h3 | exact .h4 | exact .h5 | exact .h6 | exact .h7 | exact .h8 | exact .h9 | exact .h10 | exact .h11 | exact .h12 | exact .h13 | exact .h14) (by exact Enc.size_eq _)) ?_)
  refine WL.op rfl (opW.call (great4_ok _ t x ins lks (hx.bel hS.old) hbd) rfl ?_)
  rintro _ w ⟨bb, rfl, hbb, hw⟩; replace hS := hS.bel hw
  refine WL.op rfl (opW.moveB rfl ?_)
  refine WL.gd _ 21 _ rfl rfl rfl rfl (fun hg22 => opW.moveV (v := sb.v) rfl ⟨rfl, Bel.refl _⟩) (fun w hw => ?_)
  replace hS := hS.bel hw
  refine WL.gd _ 21 _ rfl rfl rfl rfl (fun hg23 => opW.lenV (by first | exact gv_of rfl hg23 | rfl) ((hb.bel hS.old)) ⟨rfl, Bel.refl _⟩) (fun w hw => ?_)
  replace hS := hS.bel hw
  refine WL.gd _ 21 _ rfl rfl rfl rfl (fun hg24 => opW.gtr (by first | exact gv_of rfl hg24 | rfl) rfl ⟨rfl, Bel.refl _⟩) (fun w hw => ?_)
  replace hS := hS.bel hw
  refine WL.op rfl (opW.pickOr rfl rfl (by first | rfl) ?_)
  refine WL.nil ?_
  refine thenQ_n (hK3 _ _ ?_)
  refine WC.cond _ rfl (fun hc0 => ?_) (fun hc0 => ?_)
  ·
    have hr0 := hc0
    try simp only [decide_eq_true_eq, decide_eq_false_iff_not, Bool.and_eq_true, Bool.or_eq_true, Bool.and_eq_false_iff, Bool.or_eq_false_iff, Bool.not_eq_true', Bool.not_eq_false', Int.not_lt, Int.not_le] at hc0
    refine WC.seq (fun K4 hK4 => ?_)
    refine WC.region ?_
    refine WL.op rfl (opW.call (lives4_ok _) rfl ?_)
    rintro _ w ⟨rfl, hw⟩; replace hS := hS.bel hw
    refine WL.op rfl (opW.assignB rfl ?_)
    refine WL.nil ?_
    refine thenQ_n (hK4 _ _ ?_)
    refine WC.ret ?_
    refine thenQ_r ?_
    refine bodyQ_ret (.tmpB rfl .nil) ?_
    exact ⟨rfl, hS.old⟩
  ·
    have hr0 := hc0
    try simp only [decide_eq_true_eq, decide_eq_false_iff_not, Bool.and_eq_true, Bool.or_eq_true, Bool.and_eq_false_iff, Bool.or_eq_false_iff, Bool.not_eq_true', Bool.not_eq_false', Int.not_lt, Int.not_le] at hc0
    have hr00 := hr0
    simp only [Bool.or_eq_false_iff, decide_eq_false_iff_not] at hr00
    have hsg := (hbb hr00.1).1
    have hsz := (hbb hr00.1).2
    have hbl : xs.length ≤ 1000 := by have := hr00.2; omega
    refine WC.skip ?_
    refine thenQ_n (hK2 _ _ ?_)
    refine WC.seq (fun K5 hK5 => ?_)
    refine WC.region ?_
    refine WL.op rfl (opW.loadV rfl (hS.ldA (b := b3) (cs := Enc.enc t) (by first | exact .h0 | exact .h1 | exact .h2 | exact .h3 | exact .h4 | exact .h5 | exact .h6 | exact .h7 | exact .h8 | exact .h9 | exact .h10 | exact .h11 | exact .h12 | exact .h13 | exact .h14) (by exact Enc.size_eq _)) ?_)
    refine WL.op rfl (opW.call (pput_ok _ t x ins lks (hx.bel hS.old) (by omega) (by omega)) rfl ?_)
    rintro _ w ⟨v29, rfl, hn29, hw, hc29⟩; replace hS := hS.newOwn hw hn29.1 hn29.2
    rw [hpE]
    rw [hpL] at hS
    refine WL.op rfl (opW.moveV (v := .tuple #[v29, .int .i64 1]) rfl ?_)
    refine WL.op rfl (opW.extract rfl rfl ?_)
    refine WL.op rfl (opW.extract rfl rfl ?_)
    refine WL.op rfl (opW.assignV (v := v29) rfl ?_)
    refine WL.op rfl (opW.assignI rfl ?_)
    refine WL.nil ?_
    refine thenQ_n (hK5 _ _ ?_)
    refine WC.seq (fun K6 hK6 => ?_)
    refine WC.seq (fun K7 hK7 => ?_)
    refine WC.region ?_
    refine WL.op rfl (opW.moveI rfl ?_)
    refine WL.op rfl (opW.neq rfl rfl ?_)
    refine WL.nil ?_
    refine thenQ_n (hK7 _ _ ?_)
    refine WC.cond _ rfl (fun hc1 => ?_) (fun hc1 => ?_)
    ·
      have hr1 := hc1
      try simp only [decide_eq_true_eq, decide_eq_false_iff_not, Bool.and_eq_true, Bool.or_eq_true, Bool.and_eq_false_iff, Bool.or_eq_false_iff, Bool.not_eq_true', Bool.not_eq_false', Int.not_lt, Int.not_le] at hc1
      refine WC.seq (fun K8 hK8 => ?_)
      refine WC.region ?_
      refine WL.op rfl (opW.moveI rfl ?_)
      refine WL.op rfl (opW.boolT (by decide) (opW.eql rfl rfl ⟨rfl, rfl⟩) ?_)
      refine WL.op rfl (opW.moveB rfl ?_)
      refine WL.gF 36 rfl rfl rfl rfl ?_
      refine WL.gF 36 rfl rfl rfl rfl ?_
      refine WL.op rfl (opW.pickT rfl rfl ?_)
      refine WL.op rfl (opW.moveB rfl ?_)
      refine WL.gT 40 rfl rfl rfl (WL.op rfl (opW.moveV (v := v29) rfl ?_))
      refine WL.gT 40 rfl rfl rfl (WL.op rfl (opW.lenV rfl ((hS.sl (v := v29) (xs := ([] : List UInt8)) (by first | exact .h0 | exact .h1 | exact .h2 | exact .h3 | exact .h4 | exact .h5 | exact .h6 | exact .h7 | exact .h8 | exact .h9 | exact .h10 | exact .h11 | exact .h12 | exact .h13 | exact .h14))) ?_))
      refine WL.gT 40 rfl rfl rfl (WL.op rfl (opW.boolT (by simp) (opW.eql rfl rfl ⟨rfl, rfl⟩) ?_))
      refine WL.op rfl (opW.pickT rfl rfl ?_)
      refine WL.op rfl (opW.moveB rfl ?_)
      refine WL.gT 45 rfl rfl rfl (WL.op rfl (opW.call (lives4_ok _) rfl ?_))
      rintro _ w ⟨rfl, hw⟩; replace hS := hS.bel hw
      refine WL.op rfl (opW.pickT rfl rfl ?_)
      refine WL.op rfl (opW.assignB rfl ?_)
      refine WL.nil ?_
      refine thenQ_n (hK8 _ _ ?_)
      refine WC.ret ?_
      refine thenQ_r ?_
      refine bodyQ_ret (.tmpB rfl .nil) ?_
      exact ⟨rfl, hS.old⟩
    ·
      have hr1 := hc1
      try simp only [decide_eq_true_eq, decide_eq_false_iff_not, Bool.and_eq_true, Bool.or_eq_true, Bool.and_eq_false_iff, Bool.or_eq_false_iff, Bool.not_eq_true', Bool.not_eq_false', Int.not_lt, Int.not_le] at hc1
      exact absurd hr1 (by decide)

set_option maxRecDepth 20000 in
set_option maxHeartbeats 1000000 in
theorem pback_3 (w0 : World) (t : Tx) (x : TC) (ins : List Instr) (lks : List Lookup) (sb : SlV) (xs : List UInt8) (k : Nat) (hk : k ≤ 65535) (hb : SlR w0 sb.v xs) (hx : IsT w0 t x ins lks) (hbd : (x.m.keys.length ≤ 140737488351232 ∧ ins.length ≤ 140737488351232 ∧ lks.length ≤ 140737488351232 ∧ (∀ i (h : i < x.m.ins.length), x.m.ins[i].2.1.length ≤ 140737488351232 ∧ x.m.ins[i].2.2.length ≤ 140737488351232) ∧ (∀ i (h : i < x.m.lks.length), x.m.lks[i].2.1.length ≤ 140737488351232 ∧ x.m.lks[i].2.2.length ≤ 140737488351232))) (hpE : ptE x = 3) : Ret Try.prog 5 #[.agg (Enc.enc t), sb.v, .int .u16 (k : Int)] w0 (fun r w' => r = .bool true ∧ Bel w0 w') := by
  refine Ret.enter (args := [.agg (Enc.enc t), sb.v, .int .u16 (k : Int)]) Try.func5 rfl Try.ntmps5 Try.results5 rfl ?_
  have hS := St.start w0
  have hble := hb.le
  simp only [maxLen] at hble
  have hpL : ptL x = [] := by unfold ptL; rw [if_neg (by rw [hpE]; decide)]
  refine WC.seq (fun K1 hK1 => ?_)
  refine WC.region ?_
  refine WL.op rfl (opW.boxA hS rfl ?_)
  intro b3 w _ hS
  refine WL.op rfl (opW.assignB rfl ?_)
  refine WL.nil ?_
  refine thenQ_n (hK1 _ _ ?_)
  refine WC.seq (fun K2 hK2 => ?_)
  refine WC.seq (fun K3 hK3 => ?_)
  refine WC.region ?_
  refine WL.op rfl (opW.loadV rfl (hS.ldA (b := b3) (cs := Enc.enc t) (by first | exact .h0 | exact .h1 | exact .h2 | exact .h3 | exact .h4 | exact .h5 | exact .h6 | exact .h7 | exact .h8 | exact .h9 | exact .h10 | exact .h11 | exact .h12 | exact .h13 | exact .h14) (by exact Enc.size_eq _)) ?_)
  refine WL.op rfl (opW.call (great4_ok _ t x ins lks (hx.bel hS.old) hbd) rfl ?_)
  rintro _ w ⟨bb, rfl, hbb, hw⟩; replace hS := hS.bel hw
  refine WL.op rfl (opW.moveB rfl ?_)
  refine WL.gd _ 21 _ rfl rfl rfl rfl (fun hg22 => opW.moveV (v := sb.v) rfl ⟨rfl, Bel.refl _⟩) (fun w hw => ?_)
  replace hS := hS.bel hw
  refine WL.gd _ 21 _ rfl rfl rfl rfl (fun hg23 => opW.lenV (by first | exact gv_of rfl hg23 | rfl) ((hb.bel hS.old)) ⟨rfl, Bel.refl _⟩) (fun w hw => ?_)
  replace hS := hS.bel hw
  refine WL.gd _ 21 _ rfl rfl rfl rfl (fun hg24 => opW.gtr (by first | exact gv_of rfl hg24 | rfl) rfl ⟨rfl, Bel.refl _⟩) (fun w hw => ?_)
  replace hS := hS.bel hw
  refine WL.op rfl (opW.pickOr rfl rfl (by first | rfl) ?_)
  refine WL.nil ?_
  refine thenQ_n (hK3 _ _ ?_)
  refine WC.cond _ rfl (fun hc0 => ?_) (fun hc0 => ?_)
  ·
    have hr0 := hc0
    try simp only [decide_eq_true_eq, decide_eq_false_iff_not, Bool.and_eq_true, Bool.or_eq_true, Bool.and_eq_false_iff, Bool.or_eq_false_iff, Bool.not_eq_true', Bool.not_eq_false', Int.not_lt, Int.not_le] at hc0
    refine WC.seq (fun K4 hK4 => ?_)
    refine WC.region ?_
    refine WL.op rfl (opW.call (lives4_ok _) rfl ?_)
    rintro _ w ⟨rfl, hw⟩; replace hS := hS.bel hw
    refine WL.op rfl (opW.assignB rfl ?_)
    refine WL.nil ?_
    refine thenQ_n (hK4 _ _ ?_)
    refine WC.ret ?_
    refine thenQ_r ?_
    refine bodyQ_ret (.tmpB rfl .nil) ?_
    exact ⟨rfl, hS.old⟩
  ·
    have hr0 := hc0
    try simp only [decide_eq_true_eq, decide_eq_false_iff_not, Bool.and_eq_true, Bool.or_eq_true, Bool.and_eq_false_iff, Bool.or_eq_false_iff, Bool.not_eq_true', Bool.not_eq_false', Int.not_lt, Int.not_le] at hc0
    have hr00 := hr0
    simp only [Bool.or_eq_false_iff, decide_eq_false_iff_not] at hr00
    have hsg := (hbb hr00.1).1
    have hsz := (hbb hr00.1).2
    have hbl : xs.length ≤ 1000 := by have := hr00.2; omega
    refine WC.skip ?_
    refine thenQ_n (hK2 _ _ ?_)
    refine WC.seq (fun K5 hK5 => ?_)
    refine WC.region ?_
    refine WL.op rfl (opW.loadV rfl (hS.ldA (b := b3) (cs := Enc.enc t) (by first | exact .h0 | exact .h1 | exact .h2 | exact .h3 | exact .h4 | exact .h5 | exact .h6 | exact .h7 | exact .h8 | exact .h9 | exact .h10 | exact .h11 | exact .h12 | exact .h13 | exact .h14) (by exact Enc.size_eq _)) ?_)
    refine WL.op rfl (opW.call (pput_ok _ t x ins lks (hx.bel hS.old) (by omega) (by omega)) rfl ?_)
    rintro _ w ⟨v29, rfl, hn29, hw, hc29⟩; replace hS := hS.newOwn hw hn29.1 hn29.2
    rw [hpE]
    rw [hpL] at hS
    refine WL.op rfl (opW.moveV (v := .tuple #[v29, .int .i64 3]) rfl ?_)
    refine WL.op rfl (opW.extract rfl rfl ?_)
    refine WL.op rfl (opW.extract rfl rfl ?_)
    refine WL.op rfl (opW.assignV (v := v29) rfl ?_)
    refine WL.op rfl (opW.assignI rfl ?_)
    refine WL.nil ?_
    refine thenQ_n (hK5 _ _ ?_)
    refine WC.seq (fun K6 hK6 => ?_)
    refine WC.seq (fun K7 hK7 => ?_)
    refine WC.region ?_
    refine WL.op rfl (opW.moveI rfl ?_)
    refine WL.op rfl (opW.neq rfl rfl ?_)
    refine WL.nil ?_
    refine thenQ_n (hK7 _ _ ?_)
    refine WC.cond _ rfl (fun hc1 => ?_) (fun hc1 => ?_)
    ·
      have hr1 := hc1
      try simp only [decide_eq_true_eq, decide_eq_false_iff_not, Bool.and_eq_true, Bool.or_eq_true, Bool.and_eq_false_iff, Bool.or_eq_false_iff, Bool.not_eq_true', Bool.not_eq_false', Int.not_lt, Int.not_le] at hc1
      refine WC.seq (fun K8 hK8 => ?_)
      refine WC.region ?_
      refine WL.op rfl (opW.moveI rfl ?_)
      refine WL.op rfl (opW.boolF (by decide) (opW.eql rfl rfl ⟨rfl, rfl⟩) ?_)
      refine WL.op rfl (opW.moveB rfl ?_)
      refine WL.gT 36 rfl rfl rfl (WL.op rfl (opW.moveI rfl ?_))
      refine WL.gT 36 rfl rfl rfl (WL.op rfl (opW.boolT (by decide) (opW.eql rfl rfl ⟨rfl, rfl⟩) ?_))
      refine WL.op rfl (opW.pickT rfl rfl ?_)
      refine WL.op rfl (opW.moveB rfl ?_)
      refine WL.gT 40 rfl rfl rfl (WL.op rfl (opW.moveV (v := v29) rfl ?_))
      refine WL.gT 40 rfl rfl rfl (WL.op rfl (opW.lenV rfl ((hS.sl (v := v29) (xs := ([] : List UInt8)) (by first | exact .h0 | exact .h1 | exact .h2 | exact .h3 | exact .h4 | exact .h5 | exact .h6 | exact .h7 | exact .h8 | exact .h9 | exact .h10 | exact .h11 | exact .h12 | exact .h13 | exact .h14))) ?_))
      refine WL.gT 40 rfl rfl rfl (WL.op rfl (opW.boolT (by simp) (opW.eql rfl rfl ⟨rfl, rfl⟩) ?_))
      refine WL.op rfl (opW.pickT rfl rfl ?_)
      refine WL.op rfl (opW.moveB rfl ?_)
      refine WL.gT 45 rfl rfl rfl (WL.op rfl (opW.call (lives4_ok _) rfl ?_))
      rintro _ w ⟨rfl, hw⟩; replace hS := hS.bel hw
      refine WL.op rfl (opW.pickT rfl rfl ?_)
      refine WL.op rfl (opW.assignB rfl ?_)
      refine WL.nil ?_
      refine thenQ_n (hK8 _ _ ?_)
      refine WC.ret ?_
      refine thenQ_r ?_
      refine bodyQ_ret (.tmpB rfl .nil) ?_
      exact ⟨rfl, hS.old⟩
    ·
      have hr1 := hc1
      try simp only [decide_eq_true_eq, decide_eq_false_iff_not, Bool.and_eq_true, Bool.or_eq_true, Bool.and_eq_false_iff, Bool.or_eq_false_iff, Bool.not_eq_true', Bool.not_eq_false', Int.not_lt, Int.not_le] at hc1
      exact absurd hr1 (by decide)

theorem pbacklaw (w0 : World) (t : Tx) (sb : SlV) (xs : List UInt8) (k : Nat) (hk : k ≤ 65535) (hb : SlR w0 sb.v xs) (ht : t.okz w0) : Ret Try.prog 5 #[.agg (Enc.enc t), sb.v, .int .u16 (k : Int)] w0 (fun r w' => r = .bool true ∧ Bel w0 w') := by
  obtain ⟨x, ins, lks, hx, hbd⟩ := okz_isT ht
  rcases ptE_cases x with ⟨_, hm, hl, _⟩ | ⟨h | h, _⟩
  · exact pback_ok w0 t x ins lks sb xs k hk hb hx hbd hm hl
  · exact pback_1 w0 t x ins lks sb xs k hk hb hx hbd h
  · exact pback_3 w0 t x ins lks sb xs k hk hb hx hbd h

end Go.Fer
