/- packets.Whole -/
import Derived.Test.YtmiacbnmifejdaaPE
set_option linter.all false
namespace Go.Fer
open Go Go.Proofs Go.RowKit

theorem whF_lim {xs : List UInt8} (h : 1232 < xs.length) : whF xs = (zTC, 3) := by unfold whF; rw [if_pos h]
theorem whF_e {xs : List UInt8} {x : TC} {t : Nat} {e : Int} (h : ¬ 1232 < xs.length) (hG : gtF xs = (x, t, e)) (he : e ≠ 0) : whF xs = (zTC, e) := by unfold whF; rw [if_neg h, hG, if_neg he]
theorem whF_more {xs : List UInt8} {x : TC} {t : Nat} (h : ¬ 1232 < xs.length) (hG : gtF xs = (x, t, 0)) (ht : t < xs.length) : whF xs = (zTC, 4) := by unfold whF; rw [if_neg h, hG, if_pos rfl, if_pos ht]
theorem whF_ok {xs : List UInt8} {x : TC} {t : Nat} (h : ¬ 1232 < xs.length) (hG : gtF xs = (x, t, 0)) (ht : ¬ t < xs.length) : whF xs = (x, 0) := by unfold whF; rw [if_neg h, hG, if_pos rfl, if_neg ht]
theorem gotTR_of {w0 w' : World} {xs : List UInt8} {u : Value} {x : TC} {t : Nat} {e : Int} (h : gotTR w0 xs u w') (hG : gtF xs = (x, t, e)) : ∃ (tx : Tx) (is : List Instr) (ls : List Lookup), u = .tuple #[.agg (Enc.enc tx), .int .i64 (t : Int), .int .i64 e] ∧ GotT tx is ls x ∧ St w0 (gotTL tx is ls x) w' := by
  obtain ⟨tx, is, ls, h1, h2, h3⟩ := h
  rw [hG] at h1 h2 h3
  exact ⟨tx, is, ls, h1, h2, h3⟩
theorem gotWR_of {w0 w' : World} {xs : List UInt8} {u : Value} {x : TC} {e : Int} (h : gotWR w0 xs u w') (hG : whF xs = (x, e)) : ∃ (tx : Tx) (is : List Instr) (ls : List Lookup), u = .tuple #[.agg (Enc.enc tx), .int .i64 e] ∧ GotT tx is ls x ∧ St w0 (gotTL tx is ls x) w' := by
  obtain ⟨tx, is, ls, h1, h2, h3⟩ := h
  rw [hG] at h1 h2 h3
  exact ⟨tx, is, ls, h1, h2, h3⟩

set_option maxRecDepth 20000 in
set_option maxHeartbeats 1000000 in
theorem whole_ok (w0 : World) (sb : SlV) (xs : List UInt8) (hb : SlR w0 sb.v xs) (hxl : xs.length ≤ 1000000000) : Ret Try.prog 21 #[sb.v] w0 (gotWR w0 xs) := by
  refine Ret.enter (args := [sb.v]) Try.func21 rfl Try.ntmps21 Try.results21 rfl ?_
  have hS := St.start w0
  obtain ⟨xt, tk, er, hG⟩ : ∃ (x : TC) (t : Nat) (e : Int), gtF xs = (x, t, e) := ⟨_, _, _, rfl⟩
  refine WC.seq (fun K1 hK1 => ?_)
  refine WC.region ?_
  refine WL.op rfl (opW.allocA hS ?_)
  intro b2 w _ hS
  refine WL.op rfl (opW.assignI rfl ?_)
  rw [tx_zero] at hS
  refine WL.nil ?_
  refine thenQ_n (hK1 _ _ ?_)
  refine WC.seq (fun K2 hK2 => ?_)
  refine WC.seq (fun K3 hK3 => ?_)
  refine WC.region ?_
  refine WL.op rfl (opW.moveV (v := sb.v) rfl ?_)
  refine WL.op rfl (opW.lenV rfl ((hb.bel hS.old)) ?_)
  refine WL.op rfl (opW.gtr rfl rfl ?_)
  refine WL.nil ?_
  refine thenQ_n (hK3 _ _ ?_)
  refine WC.cond _ rfl (fun hc0 => ?_) (fun hc0 => ?_)
  ·
    have hr0 := hc0
    try simp only [decide_eq_true_eq, decide_eq_false_iff_not, Bool.and_eq_true, Bool.or_eq_true, Bool.and_eq_false_iff, Bool.or_eq_false_iff, Bool.not_eq_true', Bool.not_eq_false', Int.not_lt, Int.not_le] at hc0
    have hwl : 1232 < xs.length := by omega
    have hw4 := whF_lim hwl
    refine WC.seq (fun K4 hK4 => ?_)
    refine WC.region ?_
    refine WL.op rfl (opW.buildE (r := (⟨⟨none, 0, 0⟩, (⟨false, ⟨0, 0, 0⟩, ⟨none, 0, 0⟩, vz 32, ⟨none, 0, 0⟩, ⟨none, 0, 0⟩⟩ : Message)⟩ : Tx)) (ps := Tx.parts (⟨⟨none, 0, 0⟩, (⟨false, ⟨0, 0, 0⟩, ⟨none, 0, 0⟩, vz 32, ⟨none, 0, 0⟩, ⟨none, 0, 0⟩⟩ : Message)⟩ : Tx)) (Tx.enc_eq _) (by simp only [enc_vset, enc_vz, Header.enc_eq, Header.parts, Message.enc_eq, Message.parts, Tx.enc_eq, Tx.parts]; rfl) (by (repeat' (first | exact trivial | refine And.intro ?_ ?_)) <;> first | rfl | exact Enc.size_eq _ | (simp; done)) ?_)
    refine WL.op0 (opW.storeE (b := b2) (r := (⟨⟨none, 0, 0⟩, (⟨false, ⟨0, 0, 0⟩, ⟨none, 0, 0⟩, vz 32, ⟨none, 0, 0⟩, ⟨none, 0, 0⟩⟩ : Message)⟩ : Tx)) hS rfl rfl (by first | exact .h0 | exact .h1 | exact .h2 | exact .h3 | exact .h4 | exact .h5 | exact .h6 | exact .h7 | exact .h8 | exact .h9 | exact .h10 | exact .h11 | exact .h12 | exact .h13 | exact .h14) (by exact Enc.size_eq _) ?_)
    intro w hS; replace hS := hS _ (by first | exact .h0 | exact .h1 | exact .h2 | exact .h3 | exact .h4 | exact .h5 | exact .h6 | exact .h7 | exact .h8 | exact .h9 | exact .h10 | exact .h11 | exact .h12 | exact .h13 | exact .h14)
    refine WL.op rfl (opW.assignI rfl ?_)
    refine WL.nil ?_
    refine thenQ_n (hK4 _ _ ?_)
    refine WC.ret ?_
    refine thenQ_r ?_
    refine bodyQ_ret (.cell (by exact hS.ldA (by first | exact .h0 | exact .h1 | exact .h2 | exact .h3 | exact .h4 | exact .h5 | exact .h6 | exact .h7 | exact .h8 | exact .h9 | exact .h10 | exact .h11 | exact .h12 | exact .h13 | exact .h14) (by exact Enc.size_eq _)) (.tmpI rfl .nil)) ?_
    refine ⟨(⟨⟨none, 0, 0⟩, (⟨false, ⟨0, 0, 0⟩, ⟨none, 0, 0⟩, vz 32, ⟨none, 0, 0⟩, ⟨none, 0, 0⟩⟩ : Message)⟩ : Tx), [], [], by rw [hw4]; rfl, by rw [hw4]; exact zGotM, ?_⟩
    rw [hw4]
    exact zGotTL (hS.sub (List.nil_sublist _))
  ·
    have hr0 := hc0
    try simp only [decide_eq_true_eq, decide_eq_false_iff_not, Bool.and_eq_true, Bool.or_eq_true, Bool.and_eq_false_iff, Bool.or_eq_false_iff, Bool.not_eq_true', Bool.not_eq_false', Int.not_lt, Int.not_le] at hc0
    have hwl : ¬ 1232 < xs.length := by omega
    refine WC.skip ?_
    refine thenQ_n (hK2 _ _ ?_)
    refine WC.seq (fun K5 hK5 => ?_)
    refine WC.region ?_
    refine WL.op rfl (opW.moveV (v := sb.v) rfl ?_)
    refine WL.op rfl (opW.call (gget_ok _ sb xs (hb.bel hS.old) hxl) rfl ?_)
    rintro _ w hgr
    obtain ⟨tx, is, ls, rfl, hgm, hSg⟩ := gotTR_of hgr hG
    replace hS := hS.merge hSg
    unfold gotTL gotL at hS
    simp only [List.cons_append, List.nil_append] at hS
    refine WL.op rfl (opW.moveV (v := .tuple #[.agg (Enc.enc tx), .int .i64 (tk : Int), .int .i64 er]) rfl ?_)
    refine WL.op rfl (opW.extract rfl rfl ?_)
    refine WL.op rfl (opW.extract rfl rfl ?_)
    refine WL.op rfl (opW.extract rfl rfl ?_)
    refine WL.op rfl (opW.allocA hS ?_)
    intro b4 w _ hS
    refine WL.op0 (opW.storeE (b := b4) (r := tx) hS rfl rfl (by first | exact .h0 | exact .h1 | exact .h2 | exact .h3 | exact .h4 | exact .h5 | exact .h6 | exact .h7 | exact .h8 | exact .h9 | exact .h10 | exact .h11 | exact .h12 | exact .h13 | exact .h14) (by rw [tx_zero]; exact Enc.size_eq _) ?_)
    intro w hS; replace hS := hS _ (by first | exact .h0 | exact .h1 | exact .h2 | exact .h3 | exact .h4 | exact .h5 | exact .h6 | exact .h7 | exact .h8 | exact .h9 | exact .h10 | exact .h11 | exact .h12 | exact .h13 | exact .h14)
    refine WL.op rfl (opW.assignI rfl ?_)
    refine WL.op rfl (opW.assignI rfl ?_)
    refine WL.nil ?_
    refine thenQ_n (hK5 _ _ ?_)
    refine WC.seq (fun K6 hK6 => ?_)
    refine WC.block ?_
    refine WC.seq (fun K7 hK7 => ?_)
    refine WC.region ?_
    refine WL.op rfl (opW.moveI rfl ?_)
    refine WL.op rfl (opW.neq rfl rfl ?_)
    refine WL.op rfl (opW.assignB rfl ?_)
    refine WL.nil ?_
    refine thenQ_n (hK7 _ _ ?_)
    refine WC.cond _ rfl (fun hc1 => ?_) (fun hc1 => ?_)
    ·
      have hr1 := hc1
      try simp only [decide_eq_true_eq, decide_eq_false_iff_not, Bool.and_eq_true, Bool.or_eq_true, Bool.and_eq_false_iff, Bool.or_eq_false_iff, Bool.not_eq_true', Bool.not_eq_false', Int.not_lt, Int.not_le] at hc1
      have he0 : er ≠ 0 := by simpa using hr1
      have hw4 := whF_e hwl hG he0
      refine WC.seq (fun K8 hK8 => ?_)
      refine WC.region ?_
      refine WL.op rfl (opW.buildE (r := (⟨⟨none, 0, 0⟩, (⟨false, ⟨0, 0, 0⟩, ⟨none, 0, 0⟩, vz 32, ⟨none, 0, 0⟩, ⟨none, 0, 0⟩⟩ : Message)⟩ : Tx)) (ps := Tx.parts (⟨⟨none, 0, 0⟩, (⟨false, ⟨0, 0, 0⟩, ⟨none, 0, 0⟩, vz 32, ⟨none, 0, 0⟩, ⟨none, 0, 0⟩⟩ : Message)⟩ : Tx)) (Tx.enc_eq _) (by simp only [enc_vset, enc_vz, Header.enc_eq, Header.parts, Message.enc_eq, Message.parts, Tx.enc_eq, Tx.parts]; rfl) (by (repeat' (first | exact trivial | refine And.intro ?_ ?_)) <;> first | rfl | exact Enc.size_eq _ | (simp; done)) ?_)
      refine WL.op rfl (opW.moveI rfl ?_)
      refine WL.op0 (opW.storeE (b := b2) (r := (⟨⟨none, 0, 0⟩, (⟨false, ⟨0, 0, 0⟩, ⟨none, 0, 0⟩, vz 32, ⟨none, 0, 0⟩, ⟨none, 0, 0⟩⟩ : Message)⟩ : Tx)) hS rfl rfl (by first | exact .h0 | exact .h1 | exact .h2 | exact .h3 | exact .h4 | exact .h5 | exact .h6 | exact .h7 | exact .h8 | exact .h9 | exact .h10 | exact .h11 | exact .h12 | exact .h13 | exact .h14) (by exact Enc.size_eq _) ?_)
      intro w hS; replace hS := hS _ (by first | exact .h0 | exact .h1 | exact .h2 | exact .h3 | exact .h4 | exact .h5 | exact .h6 | exact .h7 | exact .h8 | exact .h9 | exact .h10 | exact .h11 | exact .h12 | exact .h13 | exact .h14)
      refine WL.op rfl (opW.assignI rfl ?_)
      refine WL.nil ?_
      refine thenQ_n (hK8 _ _ ?_)
      refine WC.ret ?_
      refine blockQ_r ?_
      refine thenQ_r ?_
      refine bodyQ_ret (.cell (by exact hS.ldA (by first | exact .h0 | exact .h1 | exact .h2 | exact .h3 | exact .h4 | exact .h5 | exact .h6 | exact .h7 | exact .h8 | exact .h9 | exact .h10 | exact .h11 | exact .h12 | exact .h13 | exact .h14) (by exact Enc.size_eq _)) (.tmpI rfl .nil)) ?_
      refine ⟨(⟨⟨none, 0, 0⟩, (⟨false, ⟨0, 0, 0⟩, ⟨none, 0, 0⟩, vz 32, ⟨none, 0, 0⟩, ⟨none, 0, 0⟩⟩ : Message)⟩ : Tx), [], [], by rw [hw4]; rfl, by rw [hw4]; exact zGotM, ?_⟩
      rw [hw4]
      exact zGotTL (hS.sub (List.nil_sublist _))
    ·
      have hr1 := hc1
      try simp only [decide_eq_true_eq, decide_eq_false_iff_not, Bool.and_eq_true, Bool.or_eq_true, Bool.and_eq_false_iff, Bool.or_eq_false_iff, Bool.not_eq_true', Bool.not_eq_false', Int.not_lt, Int.not_le] at hc1
      obtain rfl : er = 0 := by simpa using hr1
      refine WC.seq (fun K9 hK9 => ?_)
      refine WC.region ?_
      refine WL.op rfl (opW.moveI rfl ?_)
      refine WL.op rfl (opW.moveV (v := sb.v) rfl ?_)
      refine WL.op rfl (opW.lenV rfl ((hb.bel hS.old)) ?_)
      refine WL.op rfl (opW.lss rfl rfl ?_)
      refine WL.op rfl (opW.assignB rfl ?_)
      refine WL.nil ?_
      refine thenQ_n (hK9 _ _ ?_)
      refine WC.cond _ rfl (fun hc2 => ?_) (fun hc2 => ?_)
      ·
        have hr2 := hc2
        try simp only [decide_eq_true_eq, decide_eq_false_iff_not, Bool.and_eq_true, Bool.or_eq_true, Bool.and_eq_false_iff, Bool.or_eq_false_iff, Bool.not_eq_true', Bool.not_eq_false', Int.not_lt, Int.not_le] at hc2
        have hw4 := whF_more hwl hG (by omega)
        refine WC.seq (fun K10 hK10 => ?_)
        refine WC.region ?_
        refine WL.op rfl (opW.buildE (r := (⟨⟨none, 0, 0⟩, (⟨false, ⟨0, 0, 0⟩, ⟨none, 0, 0⟩, vz 32, ⟨none, 0, 0⟩, ⟨none, 0, 0⟩⟩ : Message)⟩ : Tx)) (ps := Tx.parts (⟨⟨none, 0, 0⟩, (⟨false, ⟨0, 0, 0⟩, ⟨none, 0, 0⟩, vz 32, ⟨none, 0, 0⟩, ⟨none, 0, 0⟩⟩ : Message)⟩ : Tx)) (Tx.enc_eq _) (by simp only [enc_vset, enc_vz, Header.enc_eq, Header.parts, Message.enc_eq, Message.parts, Tx.enc_eq, Tx.parts]; rfl) (by (repeat' (first | exact trivial | refine And.intro ?_ ?_)) <;> first | rfl | exact Enc.size_eq _ | (simp; done)) ?_)
        refine WL.op0 (opW.storeE (b := b2) (r := (⟨⟨none, 0, 0⟩, (⟨false, ⟨0, 0, 0⟩, ⟨none, 0, 0⟩, vz 32, ⟨none, 0, 0⟩, ⟨none, 0, 0⟩⟩ : Message)⟩ : Tx)) hS rfl rfl (by first | exact .h0 | exact .h1 | exact .h2 | exact .h3 | exact .h4 | exact .h5 | exact .h6 | exact .h7 | exact .h8 | exact .h9 | exact .h10 | exact .h11 | exact .h12 | exact .h13 | exact .h14) (by exact Enc.size_eq _) ?_)
        intro w hS; replace hS := hS _ (by first | exact .h0 | exact .h1 | exact .h2 | exact .h3 | exact .h4 | exact .h5 | exact .h6 | exact .h7 | exact .h8 | exact .h9 | exact .h10 | exact .h11 | exact .h12 | exact .h13 | exact .h14)
        refine WL.op rfl (opW.assignI rfl ?_)
        refine WL.nil ?_
        refine thenQ_n (hK10 _ _ ?_)
        refine WC.ret ?_
        refine blockQ_r ?_
        refine thenQ_r ?_
        refine bodyQ_ret (.cell (by exact hS.ldA (by first | exact .h0 | exact .h1 | exact .h2 | exact .h3 | exact .h4 | exact .h5 | exact .h6 | exact .h7 | exact .h8 | exact .h9 | exact .h10 | exact .h11 | exact .h12 | exact .h13 | exact .h14) (by exact Enc.size_eq _)) (.tmpI rfl .nil)) ?_
        refine ⟨(⟨⟨none, 0, 0⟩, (⟨false, ⟨0, 0, 0⟩, ⟨none, 0, 0⟩, vz 32, ⟨none, 0, 0⟩, ⟨none, 0, 0⟩⟩ : Message)⟩ : Tx), [], [], by rw [hw4]; rfl, by rw [hw4]; exact zGotM, ?_⟩
        rw [hw4]
        exact zGotTL (hS.sub (List.nil_sublist _))
      ·
        have hr2 := hc2
        try simp only [decide_eq_true_eq, decide_eq_false_iff_not, Bool.and_eq_true, Bool.or_eq_true, Bool.and_eq_false_iff, Bool.or_eq_false_iff, Bool.not_eq_true', Bool.not_eq_false', Int.not_lt, Int.not_le] at hc2
        have hw4 := whF_ok hwl hG (by omega)
        refine WC.skip ?_
        refine blockQ_n ?_
        refine thenQ_n (hK6 _ _ ?_)
        refine WC.seq (fun K11 hK11 => ?_)
        refine WC.region ?_
        refine WL.op rfl (opW.loadV rfl (hS.ldA (b := b4) (cs := Enc.enc tx) (by first | exact .h0 | exact .h1 | exact .h2 | exact .h3 | exact .h4 | exact .h5 | exact .h6 | exact .h7 | exact .h8 | exact .h9 | exact .h10 | exact .h11 | exact .h12 | exact .h13 | exact .h14) (by exact Enc.size_eq _)) ?_)
        refine WL.op0 (opW.storeE (b := b2) (r := tx) hS rfl rfl (by first | exact .h0 | exact .h1 | exact .h2 | exact .h3 | exact .h4 | exact .h5 | exact .h6 | exact .h7 | exact .h8 | exact .h9 | exact .h10 | exact .h11 | exact .h12 | exact .h13 | exact .h14) (by exact Enc.size_eq _) ?_)
        intro w hS; replace hS := hS _ (by first | exact .h0 | exact .h1 | exact .h2 | exact .h3 | exact .h4 | exact .h5 | exact .h6 | exact .h7 | exact .h8 | exact .h9 | exact .h10 | exact .h11 | exact .h12 | exact .h13 | exact .h14)
        refine WL.op rfl (opW.assignI rfl ?_)
        refine WL.nil ?_
        refine thenQ_n (hK11 _ _ ?_)
        refine WC.ret ?_
        refine bodyQ_ret (.cell (by exact hS.ldA (by first | exact .h0 | exact .h1 | exact .h2 | exact .h3 | exact .h4 | exact .h5 | exact .h6 | exact .h7 | exact .h8 | exact .h9 | exact .h10 | exact .h11 | exact .h12 | exact .h13 | exact .h14) (by exact Enc.size_eq _)) (.tmpI rfl .nil)) ?_
        refine ⟨tx, is, ls, by rw [hw4]; rfl, by rw [hw4]; exact hgm, ?_⟩
        rw [hw4]
        show St w0 (ownE tx.sigs.v 62 xt.sigs :: [ownE tx.m.keys.v 58 xt.m.keys, ownE tx.m.instrs.v 90 is, b2E (zipI is xt.m.ins), ownE tx.m.lookups.v 92 ls, b2E (zipL ls xt.m.lks)]) w
        exact hS.sub (by repeat (first | with_reducible exact List.nil_sublist _ | with_reducible exact List.Sublist.refl _ | with_reducible refine List.Sublist.cons₂ _ ?_ | with_reducible refine List.Sublist.cons _ ?_))

end Go.Fer
