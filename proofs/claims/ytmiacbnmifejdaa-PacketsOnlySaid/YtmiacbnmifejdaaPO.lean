/- PacketsOnly -/
import Derived.Test.YtmiacbnmifejdaaPL
import Derived.Test.YtmiacbnmifejdaaPJ
set_option linter.all false
namespace Go.Fer
open Go Go.Proofs Go.RowKit

theorem ponly_ok (w0 : World) (sb : SlV) (xs : List UInt8) (hb : SlR w0 sb.v xs) (x : TC) (hW : whF xs = (x, 0)) : Ret Try.prog 6 #[sb.v] w0 (fun r w' => r = .bool true ∧ Bel w0 w') := by
  refine Ret.enter (args := [sb.v]) Try.func6 rfl Try.ntmps6 Try.results6 rfl ?_
  have hS := St.start w0
  have hle := hb.le
  simp only [maxLen] at hle
  obtain ⟨hm1, hpt, hxl, hsg⟩ := whF_only hW
  have hpE : ptE x = 0 := by unfold ptE; rw [if_pos hm1, hpt, if_neg (by omega)]
  have hpL : ptL x = xs := by unfold ptL; rw [if_pos hpE, hpt]
  have hsz := size_le_put hm1
  have hql := ptB_leq x
  rw [hpt] at hql
  refine WC.seq (fun K1 hK1 => ?_)
  refine WC.region ?_
  refine WL.op rfl (opW.assignB rfl ?_)
  refine WL.nil ?_
  refine thenQ_n (hK1 _ _ ?_)
  refine WC.seq (fun K2 hK2 => ?_)
  refine WC.seq (fun K3 hK3 => ?_)
  refine WC.region ?_
  refine WL.op rfl (opW.moveV (v := sb.v) rfl ?_)
  refine WL.op rfl (opW.lenV rfl ((hb.bel hS.old)) ?_)
  refine WL.op rfl (opW.gtr rfl rfl ?_)
  refine WL.nil ?_
  refine thenQ_n (hK3 _ _ ?_)
  refine WC.cond _ rfl (fun hc0 => ?_) (fun hc0 => ?_)
  ·
    have hr0 := hc0
    try simp only [decide_eq_true_eq, decide_eq_false_iff_not, Bool.and_eq_true, Bool.or_eq_true, Bool.and_eq_false_iff, Bool.or_eq_false_iff, Bool.not_eq_true', Bool.not_eq_false', Int.not_lt, Int.not_le] at hc0
    refine WC.seq (fun K4 hK4 => ?_)
    refine WC.region ?_
    refine WL.op rfl (opW.call (lives4_ok _) rfl ?_)
    rintro _ w ⟨rfl, hw⟩; replace hS := hS.bel hw
    refine WL.op rfl (opW.assignB rfl ?_)
    refine WL.nil ?_
    refine thenQ_n (hK4 _ _ ?_)
    refine WC.ret ?_
    refine thenQ_r ?_
    refine bodyQ_ret (.tmpB rfl .nil) ?_
    exact ⟨rfl, hS.old⟩
  ·
    have hr0 := hc0
    try simp only [decide_eq_true_eq, decide_eq_false_iff_not, Bool.and_eq_true, Bool.or_eq_true, Bool.and_eq_false_iff, Bool.or_eq_false_iff, Bool.not_eq_true', Bool.not_eq_false', Int.not_lt, Int.not_le] at hc0
    refine WC.skip ?_
    refine thenQ_n (hK2 _ _ ?_)
    refine WC.seq (fun K5 hK5 => ?_)
    refine WC.region ?_
    refine WL.op rfl (opW.moveV (v := sb.v) rfl ?_)
    refine WL.op rfl (opW.call (whole_ok _ sb xs (hb.bel hS.old) (by omega)) rfl ?_)
    rintro _ w hgr
    obtain ⟨tx, is, ls, rfl, hg, hSg⟩ := gotWR_of hgr hW
    replace hS := hS.merge hSg
    unfold gotTL gotL at hS
    simp only [List.cons_append, List.nil_append] at hS
    refine WL.op rfl (opW.moveV (v := .tuple #[.agg (Enc.enc tx), .int .i64 0]) rfl ?_)
    refine WL.op rfl (opW.extract rfl rfl ?_)
    refine WL.op rfl (opW.extract rfl rfl ?_)
    refine WL.op rfl (opW.allocA hS ?_)
    intro b3 w _ hS
    refine WL.op0 (opW.storeE (b := b3) (r := tx) hS rfl rfl (by first | exact .h0 | exact .h1 | exact .h2 | exact .h3 | exact .h4 | exact .h5 | exact .h6 | exact .h7 | exact .h8 | exact .h9 | exact .h10 | exact .h11 | exact .h12 | exact .h13 | exact .h14) (by rw [tx_zero]; exact Enc.size_eq _) ?_)
    intro w hS; replace hS := hS _ (by first | exact .h0 | exact .h1 | exact .h2 | exact .h3 | exact .h4 | exact .h5 | exact .h6 | exact .h7 | exact .h8 | exact .h9 | exact .h10 | exact .h11 | exact .h12 | exact .h13 | exact .h14)
    refine WL.op rfl (opW.assignI rfl ?_)
    refine WL.nil ?_
    refine thenQ_n (hK5 _ _ ?_)
    refine WC.seq (fun K6 hK6 => ?_)
    refine WC.seq (fun K7 hK7 => ?_)
    refine WC.region ?_
    refine WL.op rfl (opW.moveI rfl ?_)
    refine WL.op rfl (opW.neq rfl rfl ?_)
    refine WL.nil ?_
    refine thenQ_n (hK7 _ _ ?_)
    refine WC.cond _ rfl (fun hc1 => ?_) (fun hc1 => ?_)
    ·
      have hr1 := hc1
      try simp only [decide_eq_true_eq, decide_eq_false_iff_not, Bool.and_eq_true, Bool.or_eq_true, Bool.and_eq_false_iff, Bool.or_eq_false_iff, Bool.not_eq_true', Bool.not_eq_false', Int.not_lt, Int.not_le] at hc1
      exact absurd hr1 (by decide)
    ·
      have hr1 := hc1
      try simp only [decide_eq_true_eq, decide_eq_false_iff_not, Bool.and_eq_true, Bool.or_eq_true, Bool.and_eq_false_iff, Bool.or_eq_false_iff, Bool.not_eq_true', Bool.not_eq_false', Int.not_lt, Int.not_le] at hc1
      refine WC.skip ?_
      refine thenQ_n (hK6 _ _ ?_)
      refine WC.seq (fun K8 hK8 => ?_)
      refine WC.region ?_
      refine WL.op rfl (opW.loadV rfl (hS.ldA (b := b3) (cs := Enc.enc tx) (by first | exact .h0 | exact .h1 | exact .h2 | exact .h3 | exact .h4 | exact .h5 | exact .h6 | exact .h7 | exact .h8 | exact .h9 | exact .h10 | exact .h11 | exact .h12 | exact .h13 | exact .h14) (by exact Enc.size_eq _)) ?_)
      refine WL.op rfl (opW.call (pput_ok _ tx x is ls (hg.isT (show St w0 (ownE tx.sigs.v 62 x.sigs :: [ownE tx.m.keys.v 58 x.m.keys, ownE tx.m.instrs.v 90 is, b2E (zipI is x.m.ins), ownE tx.m.lookups.v 92 ls, b2E (zipL ls x.m.lks)]) _ from hS.sub (by repeat (first | with_reducible exact List.nil_sublist _ | with_reducible exact List.Sublist.refl _ | with_reducible refine List.Sublist.cons₂ _ ?_ | with_reducible refine List.Sublist.cons _ ?_)))) (by omega) (by omega)) rfl ?_)
      rintro _ w ⟨v26, rfl, hn26, hw, hc26⟩; replace hS := hS.newOwn hw hn26.1 hn26.2
      rw [hpE]
      rw [hpL] at hS
      refine WL.op rfl (opW.moveV (v := .tuple #[v26, .int .i64 0]) rfl ?_)
      refine WL.op rfl (opW.extract rfl rfl ?_)
      refine WL.op rfl (opW.extract rfl rfl ?_)
      refine WL.op rfl (opW.assignV (v := v26) rfl ?_)
      refine WL.op rfl (opW.assignI rfl ?_)
      refine WL.nil ?_
      refine thenQ_n (hK8 _ _ ?_)
      refine WC.seq (fun K9 hK9 => ?_)
      refine WC.region ?_
      refine WL.op rfl (opW.moveI rfl ?_)
      refine WL.op rfl (opW.boolT (by decide) (opW.eql rfl rfl ⟨rfl, rfl⟩) ?_)
      refine WL.op rfl (opW.moveB rfl ?_)
      refine WL.gT 31 rfl rfl rfl (WL.op rfl (opW.moveV (v := sb.v) rfl ?_))
      refine WL.gT 31 rfl rfl rfl (WL.op rfl (opW.moveV (v := v26) rfl ?_))
      refine WL.gT 31 rfl rfl rfl (WL.op rfl (opW.call (sameBytes_ok _ sb.v v26 xs xs (hb.bel hS.old) (hS.sl (v := v26) (xs := xs) (by first | exact .h0 | exact .h1 | exact .h2 | exact .h3 | exact .h4 | exact .h5 | exact .h6 | exact .h7 | exact .h8 | exact .h9 | exact .h10 | exact .h11 | exact .h12 | exact .h13 | exact .h14))) rfl ?_))
      rintro _ w ⟨rfl, hw⟩; replace hS := hS.bel hw
      rw [decide_eq_true (rfl : xs = xs)]
      refine WL.op rfl (opW.pickT rfl rfl ?_)
      refine WL.op rfl (opW.moveB rfl ?_)
      refine WL.gT 36 rfl rfl rfl (WL.op rfl (opW.call (lives4_ok _) rfl ?_))
      rintro _ w ⟨rfl, hw⟩; replace hS := hS.bel hw
      refine WL.op rfl (opW.pickT rfl rfl ?_)
      refine WL.op rfl (opW.assignB rfl ?_)
      refine WL.nil ?_
      refine thenQ_n (hK9 _ _ ?_)
      refine WC.ret ?_
      refine bodyQ_ret (.tmpB rfl .nil) ?_
      exact ⟨rfl, hS.old⟩

theorem ponly_no (w0 : World) (sb : SlV) (xs : List UInt8) (hb : SlR w0 sb.v xs) (er : Int) (he : er ≠ 0) (hW : whF xs = (zTC, er)) : Ret Try.prog 6 #[sb.v] w0 (fun r w' => r = .bool true ∧ Bel w0 w') := by
  refine Ret.enter (args := [sb.v]) Try.func6 rfl Try.ntmps6 Try.results6 rfl ?_
  have hS := St.start w0
  have hle := hb.le
  simp only [maxLen] at hle
  
  refine WC.seq (fun K1 hK1 => ?_)
  refine WC.region ?_
  refine WL.op rfl (opW.assignB rfl ?_)
  refine WL.nil ?_
  refine thenQ_n (hK1 _ _ ?_)
  refine WC.seq (fun K2 hK2 => ?_)
  refine WC.seq (fun K3 hK3 => ?_)
  refine WC.region ?_
  refine WL.op rfl (opW.moveV (v := sb.v) rfl ?_)
  refine WL.op rfl (opW.lenV rfl ((hb.bel hS.old)) ?_)
  refine WL.op rfl (opW.gtr rfl rfl ?_)
  refine WL.nil ?_
  refine thenQ_n (hK3 _ _ ?_)
  refine WC.cond _ rfl (fun hc0 => ?_) (fun hc0 => ?_)
  ·
    have hr0 := hc0
    try simp only [decide_eq_true_eq, decide_eq_false_iff_not, Bool.and_eq_true, Bool.or_eq_true, Bool.and_eq_false_iff, Bool.or_eq_false_iff, Bool.not_eq_true', Bool.not_eq_false', Int.not_lt, Int.not_le] at hc0
    refine WC.seq (fun K4 hK4 => ?_)
    refine WC.region ?_
    refine WL.op rfl (opW.call (lives4_ok _) rfl ?_)
    rintro _ w ⟨rfl, hw⟩; replace hS := hS.bel hw
    refine WL.op rfl (opW.assignB rfl ?_)
    refine WL.nil ?_
    refine thenQ_n (hK4 _ _ ?_)
    refine WC.ret ?_
    refine thenQ_r ?_
    refine bodyQ_ret (.tmpB rfl .nil) ?_
    exact ⟨rfl, hS.old⟩
  ·
    have hr0 := hc0
    try simp only [decide_eq_true_eq, decide_eq_false_iff_not, Bool.and_eq_true, Bool.or_eq_true, Bool.and_eq_false_iff, Bool.or_eq_false_iff, Bool.not_eq_true', Bool.not_eq_false', Int.not_lt, Int.not_le] at hc0
    refine WC.skip ?_
    refine thenQ_n (hK2 _ _ ?_)
    refine WC.seq (fun K5 hK5 => ?_)
    refine WC.region ?_
    refine WL.op rfl (opW.moveV (v := sb.v) rfl ?_)
    refine WL.op rfl (opW.call (whole_ok _ sb xs (hb.bel hS.old) (by omega)) rfl ?_)
    rintro _ w hgr
    obtain ⟨tx, is, ls, rfl, hg, hSg⟩ := gotWR_of hgr hW
    replace hS := hS.merge hSg
    unfold gotTL gotL at hS
    simp only [List.cons_append, List.nil_append] at hS
    refine WL.op rfl (opW.moveV (v := .tuple #[.agg (Enc.enc tx), .int .i64 er]) rfl ?_)
    refine WL.op rfl (opW.extract rfl rfl ?_)
    refine WL.op rfl (opW.extract rfl rfl ?_)
    refine WL.op rfl (opW.allocA hS ?_)
    intro b3 w _ hS
    refine WL.op0 (opW.storeE (b := b3) (r := tx) hS rfl rfl (by first | exact .h0 | exact .h1 | exact .h2 | exact .h3 | exact .h4 | exact .h5 | exact .h6 | exact .h7 | exact .h8 | exact .h9 | exact .h10 | exact .h11 | exact .h12 | exact .h13 | exact .h14) (by rw [tx_zero]; exact Enc.size_eq _) ?_)
    intro w hS; replace hS := hS _ (by first | exact .h0 | exact .h1 | exact .h2 | exact .h3 | exact .h4 | exact .h5 | exact .h6 | exact .h7 | exact .h8 | exact .h9 | exact .h10 | exact .h11 | exact .h12 | exact .h13 | exact .h14)
    refine WL.op rfl (opW.assignI rfl ?_)
    refine WL.nil ?_
    refine thenQ_n (hK5 _ _ ?_)
    refine WC.seq (fun K6 hK6 => ?_)
    refine WC.seq (fun K7 hK7 => ?_)
    refine WC.region ?_
    refine WL.op rfl (opW.moveI rfl ?_)
    refine WL.op rfl (opW.neq rfl rfl ?_)
    refine WL.nil ?_
    refine thenQ_n (hK7 _ _ ?_)
    refine WC.cond _ rfl (fun hc1 => ?_) (fun hc1 => ?_)
    ·
      have hr1 := hc1
      try simp only [decide_eq_true_eq, decide_eq_false_iff_not, Bool.and_eq_true, Bool.or_eq_true, Bool.and_eq_false_iff, Bool.or_eq_false_iff, Bool.not_eq_true', Bool.not_eq_false', Int.not_lt, Int.not_le] at hc1
      refine WC.seq (fun K8 hK8 => ?_)
      refine WC.region ?_
      refine WL.op rfl (opW.loadV rfl (hS.ldA (b := b3) (cs := Enc.enc tx) (by first | exact .h0 | exact .h1 | exact .h2 | exact .h3 | exact .h4 | exact .h5 | exact .h6 | exact .h7 | exact .h8 | exact .h9 | exact .h10 | exact .h11 | exact .h12 | exact .h13 | exact .h14) (by exact Enc.size_eq _)) ?_)
      refine WL.op rfl (opW.buildE (r := (⟨⟨none, 0, 0⟩, (⟨false, ⟨0, 0, 0⟩, ⟨none, 0, 0⟩, vz 32, ⟨none, 0, 0⟩, ⟨none, 0, 0⟩⟩ : Message)⟩ : Tx)) (ps := Tx.parts (⟨⟨none, 0, 0⟩, (⟨false, ⟨0, 0, 0⟩, ⟨none, 0, 0⟩, vz 32, ⟨none, 0, 0⟩, ⟨none, 0, 0⟩⟩ : Message)⟩ : Tx)) (Tx.enc_eq _) (by simp only [enc_vset, enc_vz, Header.enc_eq, Header.parts, Message.enc_eq, Message.parts, Tx.enc_eq, Tx.parts]; rfl) (by (repeat' (first | exact trivial | refine And.intro ?_ ?_)) <;> first | rfl | exact Enc.size_eq _ | (simp; done)) ?_)
      refine WL.op rfl (opW.call (sameTx_ok _ tx (⟨⟨none, 0, 0⟩, (⟨false, ⟨0, 0, 0⟩, ⟨none, 0, 0⟩, vz 32, ⟨none, 0, 0⟩, ⟨none, 0, 0⟩⟩ : Message)⟩ : Tx) zTC zTC is [] ls [] (hg.isT (show St w0 (ownE tx.sigs.v 62 zTC.sigs :: [ownE tx.m.keys.v 58 zTC.m.keys, ownE tx.m.instrs.v 90 is, b2E (zipI is zTC.m.ins), ownE tx.m.lookups.v 92 ls, b2E (zipL ls zTC.m.lks)]) _ from hS.sub (by repeat (first | with_reducible exact List.nil_sublist _ | with_reducible exact List.Sublist.refl _ | with_reducible refine List.Sublist.cons₂ _ ?_ | with_reducible refine List.Sublist.cons _ ?_)))) (zIsT _)) rfl ?_)
      rintro _ w ⟨rfl, hw⟩; replace hS := hS.bel hw
      rw [decide_eq_true (rfl : zTC = zTC)]
      refine WL.op rfl (opW.moveB rfl ?_)
      refine WL.gT 21 rfl rfl rfl (WL.op rfl (opW.call (lives4_ok _) rfl ?_))
      rintro _ w ⟨rfl, hw⟩; replace hS := hS.bel hw
      refine WL.op rfl (opW.pickT rfl rfl ?_)
      refine WL.op rfl (opW.assignB rfl ?_)
      refine WL.nil ?_
      refine thenQ_n (hK8 _ _ ?_)
      refine WC.ret ?_
      refine thenQ_r ?_
      refine bodyQ_ret (.tmpB rfl .nil) ?_
      exact ⟨rfl, hS.old⟩
    ·
      have hr1 := hc1
      try simp only [decide_eq_true_eq, decide_eq_false_iff_not, Bool.and_eq_true, Bool.or_eq_true, Bool.and_eq_false_iff, Bool.or_eq_false_iff, Bool.not_eq_true', Bool.not_eq_false', Int.not_lt, Int.not_le] at hc1
      exact absurd hr1 (by simpa using he)

theorem ponly_law (w0 : World) (sb : SlV) (xs : List UInt8) (hb : SlR w0 sb.v xs) : Ret Try.prog 6 #[sb.v] w0 (fun r w' => r = .bool true ∧ Bel w0 w') := by
  obtain ⟨x, e, hW⟩ : ∃ (x : TC) (e : Int), whF xs = (x, e) := ⟨_, _, rfl⟩
  by_cases he : e = 0
  · subst he; exact ponly_ok w0 sb xs hb x hW
  · have hz := whF_err hW he
    subst hz
    exact ponly_no w0 sb xs hb e he hW

end Go.Fer
