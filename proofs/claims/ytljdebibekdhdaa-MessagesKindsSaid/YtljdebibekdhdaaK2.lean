/- MessagesKinds -/
import Derived.Test.YtljdebibekdhdaaG2
import Derived.Test.YtljdebibekdhdaaV
import Derived.Test.YtljdebibekdhdaaS
import Derived.Test.YtljdebibekdhdaaM
set_option linter.all false
namespace Go.Fer
open Go Go.Proofs Go.RowKit

theorem longM_le (c : MC) : longM c ≤ c.size := by
  unfold longM
  have h1 := longs_of c.ins (max (max c.keys.length c.ins.length) c.lks.length) c.size (by unfold MC.size; omega) (fun x hx => by
    obtain ⟨i, hi, rfl⟩ := List.getElem_of_mem hx
    have := sumB_ge hi
    unfold MC.size; omega)
  exact longs_of c.lks _ c.size h1 (fun x hx => by
    obtain ⟨i, hi, rfl⟩ := List.getElem_of_mem hx
    have := sumB_ge hi
    unfold MC.size; omega)
/-- of the elder kind; and what is made of it -/
def kind1 (c : MC) : MC := { c with v0 := false }
def kind3 (v : Bool) (c : MC) : MC := { c with v0 := v, lks := [], h := { c.h with signers := c.h.signers % 128 } }
theorem kind1_size (c : MC) : (kind1 c).size = c.size := rfl
theorem kind3_size (v : Bool) (c : MC) : (kind3 v c).size ≤ c.size := by
  unfold kind3 MC.size
  have : sumB ([] : List (Vector UInt8 32 × List UInt8 × List UInt8)) = 0 := rfl
  simp only [List.length_nil, this]; omega
theorem mayF_of {c : MC} (h1 : c.size ≤ 65535) (h2 : c.v0 = true ∨ (c.lks = [] ∧ c.h.signers.toNat < 128)) : mayF c = true := by
  have := longM_le c
  unfold mayF
  rw [Bool.and_eq_true, decide_eq_true_eq]
  refine ⟨by omega, ?_⟩
  rcases h2 with h | ⟨h, h3⟩
  · rw [h]; rfl
  · rw [h]; simp [h3]
theorem kind1_put {c : MC} (h : c.size ≤ 65535) : (!decide (putE (kind1 c) = 0)) = (decide (0 < (c.lks.length : Int)) || decide (128 ≤ (c.h.signers.toNat : Int))) := by
  unfold putE
  by_cases hh : c.lks = [] ∧ c.h.signers.toNat < 128
  · have hm : mayF (kind1 c) = true := mayF_of (c := kind1 c) (by rw [kind1_size]; exact h) (.inr hh)
    rw [if_pos hm, hh.1]
    have h2 := hh.2
    have h3 : ¬ (128 ≤ (c.h.signers.toNat : Int)) := by omega
    simp [h3]
  · have hm : ¬ mayF (kind1 c) = true := fun hm => hh (mayF_v0 (c := kind1 c) hm rfl)
    rw [if_neg hm]
    have hr : (decide (0 < (c.lks.length : Int)) || decide (128 ≤ (c.h.signers.toNat : Int))) = true := by
      rw [Bool.or_eq_true, decide_eq_true_eq, decide_eq_true_eq]
      by_cases hl : c.lks = []
      · right
        have : ¬ c.h.signers.toNat < 128 := fun h3 => hh ⟨hl, h3⟩
        omega
      · left
        have := List.length_pos_iff.2 hl
        omega
    rw [hr]; rfl
theorem kind3_may (v : Bool) {c : MC} (h : c.size ≤ 65535) : mayF (kind3 v c) = true := by
  have := kind3_size v c
  refine mayF_of (by omega) (.inr ⟨rfl, ?_⟩)
  show (c.h.signers % 128).toNat < 128
  rw [UInt8.toNat_mod]
  exact Nat.mod_lt _ (by decide)
theorem kind3_put (c : MC) : putF (kind3 true c) = [128] ++ putF (kind3 false c) ++ [0] := by
  rw [putF_eq, putF_eq]
  simp only [kind3, if_true, Bool.false_eq_true, if_false, List.length_nil, List.flatMap_nil, List.append_nil, List.nil_append, List.append_assoc]
  rfl

theorem kinds_law (w0 : World) (m : Message) (hm : m.okz w0) : Ret Try.prog 7 #[.agg (Enc.enc m)] w0 (fun r w' => r = .bool true ∧ Bel w0 w') := by
  refine Ret.enter (args := [.agg (Enc.enc m)]) Try.func7 rfl Try.ntmps7 Try.results7 rfl ?_
  have hS := St.start w0
  obtain ⟨c, ins, lks, hc, h1, h2, h3, h4, h5⟩ := okz_isM hm
  refine WC.seq (fun K1 hK1 => ?_)
  refine WC.region ?_
  refine WL.op rfl (opW.boxA hS rfl ?_)
  intro b1 w _ hS
  refine WL.op rfl (opW.assignB rfl ?_)
  refine WL.nil ?_
  refine thenQ_n (hK1 _ _ ?_)
  refine WC.seq (fun K2 hK2 => ?_)
  refine WC.seq (fun K3 hK3 => ?_)
  refine WC.region ?_
  refine WL.op rfl (opW.loadV rfl (hS.ldA (cs := Enc.enc m) (by first | exact .h0 | exact .h1 | exact .h2 | exact .h3 | exact .h4 | exact .h5 | exact .h6 | exact .h7 | exact .h8 | exact .h9 | exact .h10 | exact .h11 | exact .h12 | exact .h13 | exact .h14) (by exact Enc.size_eq _)) ?_)
  refine WL.op rfl (opW.call (great_ok _ m c ins lks (hc.bel hS.old) h1 h2 h3 h4 h5) rfl ?_)
  rintro _ w ⟨bb, rfl, hbb, hw⟩; replace hS := hS.bel hw
  refine WL.nil ?_
  refine thenQ_n (hK3 _ _ ?_)
  refine WC.cond _ rfl (fun hc0 => ?_) (fun hc0 => ?_)
  ·
    have hr0 := hc0
    try simp only [decide_eq_true_eq, decide_eq_false_iff_not, Bool.and_eq_true, Bool.or_eq_true, Bool.and_eq_false_iff, Bool.or_eq_false_iff, Bool.not_eq_true', Bool.not_eq_false', Int.not_lt, Int.not_le] at hc0
    refine WC.seq (fun K4 hK4 => ?_)
    refine WC.region ?_
    refine WL.op rfl (opW.call (lives_ok _) rfl ?_)
    rintro _ w ⟨rfl, hw⟩; replace hS := hS.bel hw
    refine WL.op rfl (opW.assignB rfl ?_)
    refine WL.nil ?_
    refine thenQ_n (hK4 _ _ ?_)
    refine WC.ret ?_
    refine thenQ_r ?_
    refine bodyQ_ret (.tmpB rfl .nil) ?_
    exact ⟨rfl, hS.old⟩
  ·
    have hr0 := hc0
    try simp only [decide_eq_true_eq, decide_eq_false_iff_not, Bool.and_eq_true, Bool.or_eq_true, Bool.and_eq_false_iff, Bool.or_eq_false_iff, Bool.not_eq_true', Bool.not_eq_false', Int.not_lt, Int.not_le] at hc0
    have hsz := hbb hr0
    have hk18 : (kind1 c).size ≤ 100000 := by rw [kind1_size]; omega
    have hk45 : (kind3 false c).size ≤ 100000 := by have := kind3_size false c; omega
    have hk50 : (kind3 true c).size ≤ 100000 := by have := kind3_size true c; omega
    have hll := hc.ll.1
    have hhd : ({ m.header with signers := m.header.signers % 128 } : Header) = { c.h with signers := c.h.signers % 128 } := by rw [hc.h]
    refine WC.skip ?_
    refine thenQ_n (hK2 _ _ ?_)
    refine WC.seq (fun K5 hK5 => ?_)
    refine WC.region ?_
    refine WL.op rfl (opW.loadV rfl (hS.ldA (cs := Enc.enc m) (by first | exact .h0 | exact .h1 | exact .h2 | exact .h3 | exact .h4 | exact .h5 | exact .h6 | exact .h7 | exact .h8 | exact .h9 | exact .h10 | exact .h11 | exact .h12 | exact .h13 | exact .h14) (by exact Enc.size_eq _)) ?_)
    refine WL.op rfl (opW.allocA hS ?_)
    intro b3 w _ hS
    refine WL.op0 (opW.storeE (r := m) hS rfl rfl (by first | exact .h0 | exact .h1 | exact .h2 | exact .h3 | exact .h4 | exact .h5 | exact .h6 | exact .h7 | exact .h8 | exact .h9 | exact .h10 | exact .h11 | exact .h12 | exact .h13 | exact .h14) (by rw [mg_zero2]; exact Enc.size_eq _) ?_)
    intro w hS; replace hS := hS _ (by first | exact .h0 | exact .h1 | exact .h2 | exact .h3 | exact .h4 | exact .h5 | exact .h6 | exact .h7 | exact .h8 | exact .h9 | exact .h10 | exact .h11 | exact .h12 | exact .h13 | exact .h14)
    refine WL.nil ?_
    refine thenQ_n (hK5 _ _ ?_)
    refine WC.seq (fun K6 hK6 => ?_)
    refine WC.region ?_
    refine WL.op rfl (opW.fieldAddrB rfl ?_)
    refine WL.op0 (opW.storeF (b := b3) (o := 0) (v := .bool false) (sz := 1) (cs := Enc.enc m) (cs' := Enc.enc (⟨false, m.header, m.keys, m.recent, m.instrs, m.lookups⟩ : Message)) hS rfl rfl (by first | exact .h0 | exact .h1 | exact .h2 | exact .h3 | exact .h4 | exact .h5 | exact .h6 | exact .h7 | exact .h8 | exact .h9 | exact .h10 | exact .h11 | exact .h12 | exact .h13 | exact .h14) rfl (by rw [Enc.size_eq]; decide) (by intro u hu; simp [Value.cells] at hu; subst hu; rfl) (Message.set_v0 m false) ?_)
    intro w hS; replace hS := hS _ (by first | exact .h0 | exact .h1 | exact .h2 | exact .h3 | exact .h4 | exact .h5 | exact .h6 | exact .h7 | exact .h8 | exact .h9 | exact .h10 | exact .h11 | exact .h12 | exact .h13 | exact .h14)
    refine WL.nil ?_
    refine thenQ_n (hK6 _ _ ?_)
    refine WC.seq (fun K7 hK7 => ?_)
    refine WC.region ?_
    refine WL.op rfl (opW.loadV rfl (hS.ldA (cs := Enc.enc (⟨false, m.header, m.keys, m.recent, m.instrs, m.lookups⟩ : Message)) (by first | exact .h0 | exact .h1 | exact .h2 | exact .h3 | exact .h4 | exact .h5 | exact .h6 | exact .h7 | exact .h8 | exact .h9 | exact .h10 | exact .h11 | exact .h12 | exact .h13 | exact .h14) (by exact Enc.size_eq _)) ?_)
    refine WL.op rfl (opW.call (put_any _ (⟨false, m.header, m.keys, m.recent, m.instrs, m.lookups⟩ : Message) (kind1 c) ins lks (show IsM _ (⟨false, m.header, m.keys, m.recent, m.instrs, m.lookups⟩ : Message) (kind1 c) ins lks from ⟨rfl, hc.h, hc.recent, (hc.bel hS.old).k, (hc.bel hS.old).i, (hc.bel hS.old).ii, (hc.bel hS.old).l, (hc.bel hS.old).ll⟩) hk18) rfl ?_)
    rintro _ w ⟨v18, rfl, hn18, hw⟩; replace hS := hS.newOwn hw hn18.1 hn18.2
    refine WL.op rfl (opW.moveV (v := .tuple #[v18, .int .i64 (putE (kind1 c))]) rfl ?_)
    refine WL.op rfl (opW.extract rfl rfl ?_)
    refine WL.op rfl (opW.extract rfl rfl ?_)
    refine WL.op rfl (opW.assignV (v := v18) rfl ?_)
    refine WL.op rfl (opW.assignI rfl ?_)
    refine WL.nil ?_
    refine thenQ_n (hK7 _ _ ?_)
    refine WC.seq (fun K8 hK8 => ?_)
    refine WC.seq (fun K9 hK9 => ?_)
    refine WC.region ?_
    refine WL.op rfl (opW.moveI rfl ?_)
    refine WL.op rfl (opW.neq rfl rfl ?_)
    refine WL.op rfl (opW.fieldAddrB rfl ?_)
    refine WL.op rfl (opW.loadV rfl (hS.ld1 (cs := Enc.enc m) (by first | exact .h0 | exact .h1 | exact .h2 | exact .h3 | exact .h4 | exact .h5 | exact .h6 | exact .h7 | exact .h8 | exact .h9 | exact .h10 | exact .h11 | exact .h12 | exact .h13 | exact .h14) (Message.at_lookups m)) ?_)
    refine WL.op rfl (opW.lenV rfl ((hc.l.bel hS.old)) ?_)
    refine WL.op rfl (opW.gtr rfl rfl ?_)
    refine WL.op rfl (opW.moveB rfl ?_)
    refine WL.gd _ 27 _ rfl rfl rfl rfl (fun hg28 => opW.fieldAddrB rfl ⟨rfl, Bel.refl _⟩) (fun w hw => ?_)
    replace hS := hS.bel hw
    refine WL.gd _ 27 _ rfl rfl rfl rfl (fun hg29 => opW.fieldAddrB (by first | exact gv_of rfl hg29 | rfl) ⟨rfl, Bel.refl _⟩) (fun w hw => ?_)
    replace hS := hS.bel hw
    refine WL.gd _ 27 (.int .u8 (m.header.signers.toNat : Int)) rfl rfl rfl rfl (fun hg30 => ?_) (fun w hw => ?_)
    · refine opW.loadV (by first | exact gv_of rfl hg30 | rfl) (hS.ld1 (cs := Enc.enc m) (by first | exact .h0 | exact .h1 | exact .h2 | exact .h3 | exact .h4 | exact .h5 | exact .h6 | exact .h7 | exact .h8 | exact .h9 | exact .h10 | exact .h11 | exact .h12 | exact .h13 | exact .h14) (Message.at_header_signers m)) ⟨rfl, Bel.refl _⟩
    replace hS := hS.bel hw
    refine WL.gd _ 27 _ rfl rfl rfl rfl (fun hg31 => opW.geq (by first | exact gv_of rfl hg31 | rfl) rfl ⟨rfl, Bel.refl _⟩) (fun w hw => ?_)
    replace hS := hS.bel hw
    refine WL.op rfl (opW.pickOr rfl rfl (by first | rfl) ?_)
    refine WL.op rfl (opW.boolF (by rw [hll, hc.h, kind1_put (c := c) (by omega)]; simp) (opW.neqB rfl rfl ⟨rfl, rfl⟩) ?_)
    refine WL.nil ?_
    refine thenQ_n (hK9 _ _ ?_)
    refine WC.cond _ rfl (fun hc1 => ?_) (fun hc1 => ?_)
    ·
      have hr1 := hc1
      try simp only [decide_eq_true_eq, decide_eq_false_iff_not, Bool.and_eq_true, Bool.or_eq_true, Bool.and_eq_false_iff, Bool.or_eq_false_iff, Bool.not_eq_true', Bool.not_eq_false', Int.not_lt, Int.not_le] at hc1
      exact absurd hr1 (by decide)
    ·
      have hr1 := hc1
      try simp only [decide_eq_true_eq, decide_eq_false_iff_not, Bool.and_eq_true, Bool.or_eq_true, Bool.and_eq_false_iff, Bool.or_eq_false_iff, Bool.not_eq_true', Bool.not_eq_false', Int.not_lt, Int.not_le] at hc1
      refine WC.skip ?_
      refine thenQ_n (hK8 _ _ ?_)
      refine WC.seq (fun K10 hK10 => ?_)
      refine WC.region ?_
      refine WL.op rfl (opW.fieldAddrB rfl ?_)
      refine WL.op0 (opW.storeF (b := b3) (o := 38) (v := .slice none 0 0) (sz := 1) (cs := Enc.enc (⟨false, m.header, m.keys, m.recent, m.instrs, m.lookups⟩ : Message)) (cs' := Enc.enc (⟨false, m.header, m.keys, m.recent, m.instrs, ⟨none, 0, 0⟩⟩ : Message)) hS rfl rfl (by first | exact .h0 | exact .h1 | exact .h2 | exact .h3 | exact .h4 | exact .h5 | exact .h6 | exact .h7 | exact .h8 | exact .h9 | exact .h10 | exact .h11 | exact .h12 | exact .h13 | exact .h14) rfl (by rw [Enc.size_eq]; decide) (Enc.one (α := SlV) ⟨none, 0, 0⟩) (Message.set_lookups (⟨false, m.header, m.keys, m.recent, m.instrs, m.lookups⟩ : Message) ⟨none, 0, 0⟩) ?_)
      intro w hS; replace hS := hS _ (by first | exact .h0 | exact .h1 | exact .h2 | exact .h3 | exact .h4 | exact .h5 | exact .h6 | exact .h7 | exact .h8 | exact .h9 | exact .h10 | exact .h11 | exact .h12 | exact .h13 | exact .h14)
      refine WL.nil ?_
      refine thenQ_n (hK10 _ _ ?_)
      refine WC.seq (fun K11 hK11 => ?_)
      refine WC.region ?_
      refine WL.op rfl (opW.fieldAddrB rfl ?_)
      refine WL.op rfl (opW.fieldAddrB rfl ?_)
      refine WL.op rfl (opW.loadV rfl (hS.ld1 (cs := Enc.enc (⟨false, m.header, m.keys, m.recent, m.instrs, ⟨none, 0, 0⟩⟩ : Message)) (by first | exact .h0 | exact .h1 | exact .h2 | exact .h3 | exact .h4 | exact .h5 | exact .h6 | exact .h7 | exact .h8 | exact .h9 | exact .h10 | exact .h11 | exact .h12 | exact .h13 | exact .h14) (Message.at_header_signers (⟨false, m.header, m.keys, m.recent, m.instrs, ⟨none, 0, 0⟩⟩ : Message))) ?_)
      refine WL.op rfl (opW.rem rfl rfl (by decide) (show _ = (((m.header.signers % 128 : UInt8)).toNat : Int) from by rw [UInt8.toNat_mod]; exact tmod_nat _ 128) ?_)
      refine WL.op rfl (opW.fieldAddrB rfl ?_)
      refine WL.op rfl (opW.fieldAddrB rfl ?_)
      refine WL.op0 (opW.storeF (b := b3) (o := 1) (v := .int .u8 (((m.header.signers % 128 : UInt8)).toNat : Int)) (sz := 1) (cs := Enc.enc (⟨false, m.header, m.keys, m.recent, m.instrs, ⟨none, 0, 0⟩⟩ : Message)) (cs' := Enc.enc (⟨false, { m.header with signers := m.header.signers % 128 }, m.keys, m.recent, m.instrs, ⟨none, 0, 0⟩⟩ : Message)) hS rfl rfl (by first | exact .h0 | exact .h1 | exact .h2 | exact .h3 | exact .h4 | exact .h5 | exact .h6 | exact .h7 | exact .h8 | exact .h9 | exact .h10 | exact .h11 | exact .h12 | exact .h13 | exact .h14) rfl (by rw [Enc.size_eq]; decide) (one_int _ _) (Message.set_h0 (⟨false, m.header, m.keys, m.recent, m.instrs, ⟨none, 0, 0⟩⟩ : Message) (m.header.signers % 128)) ?_)
      intro w hS; replace hS := hS _ (by first | exact .h0 | exact .h1 | exact .h2 | exact .h3 | exact .h4 | exact .h5 | exact .h6 | exact .h7 | exact .h8 | exact .h9 | exact .h10 | exact .h11 | exact .h12 | exact .h13 | exact .h14)
      refine WL.nil ?_
      refine thenQ_n (hK11 _ _ ?_)
      refine WC.seq (fun K12 hK12 => ?_)
      refine WC.region ?_
      refine WL.op rfl (opW.loadV rfl (hS.ldA (b := b3) (cs := Enc.enc (⟨false, { m.header with signers := m.header.signers % 128 }, m.keys, m.recent, m.instrs, ⟨none, 0, 0⟩⟩ : Message)) (by first | exact .h0 | exact .h1 | exact .h2 | exact .h3 | exact .h4 | exact .h5 | exact .h6 | exact .h7 | exact .h8 | exact .h9 | exact .h10 | exact .h11 | exact .h12 | exact .h13 | exact .h14) (by exact Enc.size_eq _)) ?_)
      refine WL.op rfl (opW.allocA hS ?_)
      intro b6 w _ hS
      refine WL.op0 (opW.storeE (r := (⟨false, { m.header with signers := m.header.signers % 128 }, m.keys, m.recent, m.instrs, ⟨none, 0, 0⟩⟩ : Message)) hS rfl rfl (by first | exact .h0 | exact .h1 | exact .h2 | exact .h3 | exact .h4 | exact .h5 | exact .h6 | exact .h7 | exact .h8 | exact .h9 | exact .h10 | exact .h11 | exact .h12 | exact .h13 | exact .h14) (by rw [mg_zero2]; exact Enc.size_eq _) ?_)
      intro w hS; replace hS := hS _ (by first | exact .h0 | exact .h1 | exact .h2 | exact .h3 | exact .h4 | exact .h5 | exact .h6 | exact .h7 | exact .h8 | exact .h9 | exact .h10 | exact .h11 | exact .h12 | exact .h13 | exact .h14)
      refine WL.nil ?_
      refine thenQ_n (hK12 _ _ ?_)
      refine WC.seq (fun K13 hK13 => ?_)
      refine WC.region ?_
      refine WL.op rfl (opW.fieldAddrB rfl ?_)
      refine WL.op0 (opW.storeF (b := b6) (o := 0) (v := .bool true) (sz := 1) (cs := Enc.enc (⟨false, { m.header with signers := m.header.signers % 128 }, m.keys, m.recent, m.instrs, ⟨none, 0, 0⟩⟩ : Message)) (cs' := Enc.enc (⟨true, { m.header with signers := m.header.signers % 128 }, m.keys, m.recent, m.instrs, ⟨none, 0, 0⟩⟩ : Message)) hS rfl rfl (by first | exact .h0 | exact .h1 | exact .h2 | exact .h3 | exact .h4 | exact .h5 | exact .h6 | exact .h7 | exact .h8 | exact .h9 | exact .h10 | exact .h11 | exact .h12 | exact .h13 | exact .h14) rfl (by rw [Enc.size_eq]; decide) (by intro u hu; simp [Value.cells] at hu; subst hu; rfl) (Message.set_v0 (⟨false, { m.header with signers := m.header.signers % 128 }, m.keys, m.recent, m.instrs, ⟨none, 0, 0⟩⟩ : Message) true) ?_)
      intro w hS; replace hS := hS _ (by first | exact .h0 | exact .h1 | exact .h2 | exact .h3 | exact .h4 | exact .h5 | exact .h6 | exact .h7 | exact .h8 | exact .h9 | exact .h10 | exact .h11 | exact .h12 | exact .h13 | exact .h14)
      refine WL.nil ?_
      refine thenQ_n (hK13 _ _ ?_)
      refine WC.seq (fun K14 hK14 => ?_)
      refine WC.region ?_
      refine WL.op rfl (opW.loadV rfl (hS.ldA (b := b3) (cs := Enc.enc (⟨false, { m.header with signers := m.header.signers % 128 }, m.keys, m.recent, m.instrs, ⟨none, 0, 0⟩⟩ : Message)) (by first | exact .h0 | exact .h1 | exact .h2 | exact .h3 | exact .h4 | exact .h5 | exact .h6 | exact .h7 | exact .h8 | exact .h9 | exact .h10 | exact .h11 | exact .h12 | exact .h13 | exact .h14) (by exact Enc.size_eq _)) ?_)
      refine WL.op rfl (opW.call (put_any _ (⟨false, { m.header with signers := m.header.signers % 128 }, m.keys, m.recent, m.instrs, ⟨none, 0, 0⟩⟩ : Message) (kind3 false c) ins [] (show IsM _ (⟨false, { m.header with signers := m.header.signers % 128 }, m.keys, m.recent, m.instrs, ⟨none, 0, 0⟩⟩ : Message) (kind3 false c) ins [] from ⟨rfl, hhd, hc.recent, (hc.bel hS.old).k, (hc.bel hS.old).i, (hc.bel hS.old).ii, SlR.nil _, ⟨rfl, fun i h => by cases h⟩⟩) hk45) rfl ?_)
      rintro _ w ⟨v45, rfl, hn45, hw⟩; replace hS := hS.newOwn hw hn45.1 hn45.2
      rw [show putE (kind3 false c) = 0 from if_pos (kind3_may false (by omega))]
      rw [show putL2 (kind3 false c) = putF (kind3 false c) from if_pos (kind3_may false (by omega))] at hS
      refine WL.op rfl (opW.moveV (v := .tuple #[v45, .int .i64 0]) rfl ?_)
      refine WL.op rfl (opW.extract rfl rfl ?_)
      refine WL.op rfl (opW.extract rfl rfl ?_)
      refine WL.op rfl (opW.assignV (v := v45) rfl ?_)
      refine WL.op rfl (opW.assignI rfl ?_)
      refine WL.nil ?_
      refine thenQ_n (hK14 _ _ ?_)
      refine WC.seq (fun K15 hK15 => ?_)
      refine WC.region ?_
      refine WL.op rfl (opW.loadV rfl (hS.ldA (b := b6) (cs := Enc.enc (⟨true, { m.header with signers := m.header.signers % 128 }, m.keys, m.recent, m.instrs, ⟨none, 0, 0⟩⟩ : Message)) (by first | exact .h0 | exact .h1 | exact .h2 | exact .h3 | exact .h4 | exact .h5 | exact .h6 | exact .h7 | exact .h8 | exact .h9 | exact .h10 | exact .h11 | exact .h12 | exact .h13 | exact .h14) (by exact Enc.size_eq _)) ?_)
      refine WL.op rfl (opW.call (put_any _ (⟨true, { m.header with signers := m.header.signers % 128 }, m.keys, m.recent, m.instrs, ⟨none, 0, 0⟩⟩ : Message) (kind3 true c) ins [] (show IsM _ (⟨true, { m.header with signers := m.header.signers % 128 }, m.keys, m.recent, m.instrs, ⟨none, 0, 0⟩⟩ : Message) (kind3 true c) ins [] from ⟨rfl, hhd, hc.recent, (hc.bel hS.old).k, (hc.bel hS.old).i, (hc.bel hS.old).ii, SlR.nil _, ⟨rfl, fun i h => by cases h⟩⟩) hk50) rfl ?_)
      rintro _ w ⟨v50, rfl, hn50, hw⟩; replace hS := hS.newOwn hw hn50.1 hn50.2
      rw [show putE (kind3 true c) = 0 from if_pos (kind3_may true (by omega))]
      rw [show putL2 (kind3 true c) = putF (kind3 true c) from if_pos (kind3_may true (by omega))] at hS
      refine WL.op rfl (opW.moveV (v := .tuple #[v50, .int .i64 0]) rfl ?_)
      refine WL.op rfl (opW.extract rfl rfl ?_)
      refine WL.op rfl (opW.extract rfl rfl ?_)
      refine WL.op rfl (opW.assignV (v := v50) rfl ?_)
      refine WL.op rfl (opW.assignI rfl ?_)
      refine WL.nil ?_
      refine thenQ_n (hK15 _ _ ?_)
      refine WC.seq (fun K16 hK16 => ?_)
      refine WC.region ?_
      have hpl := putF_len (kind3 false c)
      have hps := kind3_size false c
      refine WL.op rfl (opW.moveI rfl ?_)
      refine WL.op rfl (opW.boolT (by decide) (opW.eql rfl rfl ⟨rfl, rfl⟩) ?_)
      refine WL.op rfl (opW.moveB rfl ?_)
      refine WL.gT 55 rfl rfl rfl (WL.op rfl (opW.moveI rfl ?_))
      refine WL.gT 55 rfl rfl rfl (WL.op rfl (opW.boolT (by decide) (opW.eql rfl rfl ⟨rfl, rfl⟩) ?_))
      refine WL.op rfl (opW.pickT rfl rfl ?_)
      refine WL.op rfl (opW.moveB rfl ?_)
      refine WL.gT 59 rfl rfl rfl (WL.op rfl (opW.moveV (v := v50) rfl ?_))
      refine WL.gT 59 rfl rfl rfl (WL.op rfl (opW.buildSl hS (([128] : List UInt8)) [.int .u8 128] rfl rfl rfl rfl (by decide) ?_))
      intro b61 w hw hS
      refine WL.gT 59 rfl rfl rfl (WL.op rfl (opW.moveV (v := v45) rfl ?_))
      refine WL.gT 59 rfl rfl rfl (WL.op rfl (opW.appendOwn (α := UInt8) (v := .slice (some ⟨b61, 0, none⟩) 1 1) (xs := [128]) rfl hS rfl (by first | exact .h0 | exact .h1 | exact .h2 | exact .h3 | exact .h4 | exact .h5 | exact .h6 | exact .h7 | exact .h8 | exact .h9 | exact .h10 | exact .h11 | exact .h12 | exact .h13 | exact .h14) (hS.sl (v := v45) (xs := putF (kind3 false c)) (by first | exact .h0 | exact .h1 | exact .h2 | exact .h3 | exact .h4 | exact .h5 | exact .h6 | exact .h7 | exact .h8 | exact .h9 | exact .h10 | exact .h11 | exact .h12 | exact .h13 | exact .h14)) (by simp only [List.length_cons, List.length_nil]; omega) (by simp only [List.length_cons, List.length_nil, maxLen]; omega) ?_))
      intro v63 w hS; replace hS := hS _ (by first | exact .h0 | exact .h1 | exact .h2 | exact .h3 | exact .h4 | exact .h5 | exact .h6 | exact .h7 | exact .h8 | exact .h9 | exact .h10 | exact .h11 | exact .h12 | exact .h13 | exact .h14)
      refine WL.gT 59 rfl rfl rfl (WL.op rfl (opW.buildSl hS (([0] : List UInt8)) [.int .u8 0] rfl rfl rfl rfl (by decide) ?_))
      intro b64 w hw hS
      refine WL.gT 59 rfl rfl rfl (WL.op rfl (opW.appendOwn (α := UInt8) (v := v63) (xs := [128] ++ putF (kind3 false c)) rfl hS rfl (by first | exact .h0 | exact .h1 | exact .h2 | exact .h3 | exact .h4 | exact .h5 | exact .h6 | exact .h7 | exact .h8 | exact .h9 | exact .h10 | exact .h11 | exact .h12 | exact .h13 | exact .h14) (hS.sl (v := .slice (some ⟨b64, 0, none⟩) 1 1) (xs := [0]) (by first | exact .h0 | exact .h1 | exact .h2 | exact .h3 | exact .h4 | exact .h5 | exact .h6 | exact .h7 | exact .h8 | exact .h9 | exact .h10 | exact .h11 | exact .h12 | exact .h13 | exact .h14)) (by simp only [List.length_append, List.length_cons, List.length_nil]; omega) (by simp only [List.length_append, List.length_cons, List.length_nil, maxLen]; omega) ?_))
      intro v65 w hS; replace hS := hS _ (by first | exact .h0 | exact .h1 | exact .h2 | exact .h3 | exact .h4 | exact .h5 | exact .h6 | exact .h7 | exact .h8 | exact .h9 | exact .h10 | exact .h11 | exact .h12 | exact .h13 | exact .h14)
      refine WL.gT 59 rfl rfl rfl (WL.op rfl (opW.call (sameBytes_ok _ v50 v65 (putF (kind3 true c)) ([128] ++ putF (kind3 false c) ++ [0]) (hS.sl (v := v50) (xs := putF (kind3 true c)) (by first | exact .h0 | exact .h1 | exact .h2 | exact .h3 | exact .h4 | exact .h5 | exact .h6 | exact .h7 | exact .h8 | exact .h9 | exact .h10 | exact .h11 | exact .h12 | exact .h13 | exact .h14)) (hS.sl (v := v65) (xs := [128] ++ putF (kind3 false c) ++ [0]) (by first | exact .h0 | exact .h1 | exact .h2 | exact .h3 | exact .h4 | exact .h5 | exact .h6 | exact .h7 | exact .h8 | exact .h9 | exact .h10 | exact .h11 | exact .h12 | exact .h13 | exact .h14))) rfl ?_))
      rintro _ w ⟨rfl, hw⟩; replace hS := hS.bel hw
      rw [decide_eq_true (kind3_put c)]
      refine WL.op rfl (opW.pickT rfl rfl ?_)
      refine WL.op rfl (opW.moveB rfl ?_)
      refine WL.gT 68 rfl rfl rfl (WL.op rfl (opW.call (lives_ok _) rfl ?_))
      rintro _ w ⟨rfl, hw⟩; replace hS := hS.bel hw
      refine WL.op rfl (opW.pickT rfl rfl ?_)
      refine WL.op rfl (opW.assignB rfl ?_)
      refine WL.nil ?_
      refine thenQ_n (hK16 _ _ ?_)
      refine WC.ret ?_
      refine bodyQ_ret (.tmpB rfl .nil) ?_
      exact ⟨rfl, hS.old⟩

end Go.Fer
