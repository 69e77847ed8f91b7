/- QueuesVoid -/
import Derived.Test.YtppgmnljciakhaaG
set_option linter.all false
namespace Go.Fer
open Go Go.Proofs Go.RowKit

def VoidP (w : World) (v : Value) : Prop := v = .pointer none ∨ ∃ p, v = .pointer (some ⟨p, 0, none⟩) ∧ Pt w v (Enc.enc (LaS.mk ⟨none, 0, 0⟩ ⟨none, 0, 0⟩))
theorem VoidP.bel {w w' : World} {v : Value} (h : VoidP w v) (hb : Bel w w') : VoidP w' v := by
  rcases h with h | ⟨p, h1, h2⟩
  · exact .inl h
  · exact .inr ⟨p, h1, h2.bel hb⟩
theorem has_void (w0 : World) (v : Value) (i : Int) (h : VoidP w0 v) : Ret Try.prog 21 #[v, .int .i64 i] w0 (fun u w' => u = .bool false ∧ Bel w0 w') := by
  rcases h with rfl | ⟨p, rfl, hp⟩
  · exact hasNil_ok w0 i
  · refine (has_ok w0 p _ [] i hp (SlR.nil w0)).mono fun u w' ⟨h1, h2⟩ => ⟨?_, h2⟩
    rw [h1]
    simp [inR]
theorem all_void (w0 : World) (v : Value) (h : VoidP w0 v) : Ret Try.prog 17 #[v] w0 (fun u w' => SlR w' u ([] : List SlV) ∧ Bel w0 w') := by
  rcases h with rfl | ⟨p, rfl, hp⟩
  · exact (allNil_ok w0).mono fun u w' ⟨h1, h2⟩ => ⟨by rw [h1]; exact SlR.nil w', h2⟩
  · refine (all_ok w0 p ⟨⟨none, 0, 0⟩, ⟨none, 0, 0⟩, []⟩ 0 ⟨hp, SlR.nil w0, SlR.nil w0, fun L h => nomatch h⟩ ⟨by simp, fun L h => nomatch h⟩ (by omega)).mono fun u w' ⟨o, NL, h1, h2, h3, h4⟩ => ⟨?_, h4⟩
    obtain rfl : NL = [] := List.length_eq_zero_iff.1 (by have := congrArg List.length h2; simpa [nlC, LaD.C] using this)
    have h5 := h3.1
    unfold naE at h5
    rw [starE_A] at h5
    have h6 := h5.2 _ (List.mem_cons_self)
    rw [ownE_A] at h6
    rw [h1]; exact h6.sl

theorem pop_void (w0 : World) (v : Value) (i : Int) (hv : VoidP w0 v) : Ret Try.prog 11 #[v, .int .i64 i] w0 (fun u w' => u = .tuple #[.slice none 0 0, .bool false] ∧ Bel w0 w') := by
  refine Ret.enter (args := [v, .int .i64 i]) Try.func11 rfl Try.ntmps11 Try.results11 rfl ?_
  have hS := St.start w0
  refine WC.seq (fun K1 hK1 => ?_)
  refine WC.region ?_
  refine WL.op rfl (opW.assignV (v := .slice none 0 0) rfl ?_)
  refine WL.op rfl (opW.assignB rfl ?_)
  refine WL.nil ?_
  refine thenQ_n (hK1 _ _ ?_)
  refine WC.seq (fun K2 hK2 => ?_)
  refine WC.seq (fun K3 hK3 => ?_)
  refine WC.region ?_
  refine WL.op rfl (opW.moveV (v := v) rfl ?_)
  refine WL.op rfl (opW.moveI rfl ?_)
  refine WL.op rfl (opW.call (has_void _ v i (hv.bel hS.old)) rfl ?_)
  rintro _ w ⟨rfl, hw⟩; replace hS := hS.bel hw
  refine WL.op rfl (opW.not rfl ?_)
  refine WL.nil ?_
  refine thenQ_n (hK3 _ _ ?_)
  refine WC.cond _ rfl (fun hc0 => ?_) (fun hc0 => ?_)
  ·
    have hr0 := hc0
    try simp only [decide_eq_true_eq, decide_eq_false_iff_not, Bool.and_eq_true, Bool.or_eq_true, Bool.and_eq_false_iff, Bool.or_eq_false_iff, Bool.not_eq_true', Bool.not_eq_false', Int.not_lt, Int.not_le] at hc0
    refine WC.seq (fun K4 hK4 => ?_)
    refine WC.region ?_
    refine WL.op rfl (opW.assignV (v := .slice none 0 0) rfl ?_)
    refine WL.op rfl (opW.assignB rfl ?_)
    refine WL.nil ?_
    refine thenQ_n (hK4 _ _ ?_)
    refine WC.ret ?_
    refine thenQ_r ?_
    refine bodyQ_ret (.tmpV (v := .slice none 0 0) rfl (.tmpB rfl .nil)) ?_
    exact ⟨rfl, hS.old⟩
  ·
    have hr0 := hc0
    try simp only [decide_eq_true_eq, decide_eq_false_iff_not, Bool.and_eq_true, Bool.or_eq_true, Bool.and_eq_false_iff, Bool.or_eq_false_iff, Bool.not_eq_true', Bool.not_eq_false', Int.not_lt, Int.not_le] at hc0
    simp at hr0

theorem count_void (w0 : World) (v : Value) (i : Int) (hv : VoidP w0 v) : Ret Try.prog 18 #[v, .int .i64 i] w0 (fun u w' => u = .int .i64 0 ∧ Bel w0 w') := by
  refine Ret.enter (args := [v, .int .i64 i]) Try.func18 rfl Try.ntmps18 Try.results18 rfl ?_
  have hS := St.start w0
  refine WC.seq (fun K1 hK1 => ?_)
  refine WC.region ?_
  refine WL.op rfl (opW.assignI rfl ?_)
  refine WL.nil ?_
  refine thenQ_n (hK1 _ _ ?_)
  refine WC.seq (fun K2 hK2 => ?_)
  refine WC.seq (fun K3 hK3 => ?_)
  refine WC.region ?_
  refine WL.op rfl (opW.moveV (v := v) rfl ?_)
  refine WL.op rfl (opW.moveI rfl ?_)
  refine WL.op rfl (opW.call (has_void _ v i (hv.bel hS.old)) rfl ?_)
  rintro _ w ⟨rfl, hw⟩; replace hS := hS.bel hw
  refine WL.op rfl (opW.not rfl ?_)
  refine WL.nil ?_
  refine thenQ_n (hK3 _ _ ?_)
  refine WC.cond _ rfl (fun hc0 => ?_) (fun hc0 => ?_)
  ·
    have hr0 := hc0
    try simp only [decide_eq_true_eq, decide_eq_false_iff_not, Bool.and_eq_true, Bool.or_eq_true, Bool.and_eq_false_iff, Bool.or_eq_false_iff, Bool.not_eq_true', Bool.not_eq_false', Int.not_lt, Int.not_le] at hc0
    refine WC.seq (fun K4 hK4 => ?_)
    refine WC.region ?_
    refine WL.op rfl (opW.assignI rfl ?_)
    refine WL.nil ?_
    refine thenQ_n (hK4 _ _ ?_)
    refine WC.ret ?_
    refine thenQ_r ?_
    refine bodyQ_ret (.tmpI rfl .nil) ?_
    exact ⟨rfl, hS.old⟩
  ·
    have hr0 := hc0
    try simp only [decide_eq_true_eq, decide_eq_false_iff_not, Bool.and_eq_true, Bool.or_eq_true, Bool.and_eq_false_iff, Bool.or_eq_false_iff, Bool.not_eq_true', Bool.not_eq_false', Int.not_lt, Int.not_le] at hc0
    simp at hr0

theorem push_nil (w0 : World) (i : Int) (bv : Value) : Ret Try.prog 15 #[.pointer none, .int .i64 i, bv] w0 (fun u w' => u = .int .i64 2 ∧ Bel w0 w') := by
  refine Ret.enter (args := [.pointer none, .int .i64 i, bv]) Try.func15 rfl Try.ntmps15 Try.results15 rfl ?_
  have hS := St.start w0
  refine WC.seq (fun K1 hK1 => ?_)
  refine WC.region ?_
  refine WL.op rfl (opW.assignI rfl ?_)
  refine WL.nil ?_
  refine thenQ_n (hK1 _ _ ?_)
  refine WC.seq (fun K2 hK2 => ?_)
  refine WC.block ?_
  refine WC.seq (fun K3 hK3 => ?_)
  refine WC.region ?_
  refine WL.op rfl (opW.moveV (v := .pointer none) rfl ?_)
  refine WL.op rfl (opW.eqlP rfl rfl ?_)
  refine WL.op rfl (opW.moveB rfl ?_)
  refine WL.gF 10 rfl rfl rfl rfl ?_
  refine WL.gF 10 rfl rfl rfl rfl ?_
  refine WL.gF 10 rfl rfl rfl rfl ?_
  refine WL.gF 10 rfl rfl rfl rfl ?_
  refine WL.gF 10 rfl rfl rfl rfl ?_
  refine WL.op rfl (opW.pickT rfl rfl ?_)
  refine WL.op rfl (opW.assignB rfl ?_)
  refine WL.nil ?_
  refine thenQ_n (hK3 _ _ ?_)
  refine WC.cond _ rfl (fun hc0 => ?_) (fun hc0 => ?_)
  ·
    have hr0 := hc0
    try simp only [decide_eq_true_eq, decide_eq_false_iff_not, Bool.and_eq_true, Bool.or_eq_true, Bool.and_eq_false_iff, Bool.or_eq_false_iff, Bool.not_eq_true', Bool.not_eq_false', Int.not_lt, Int.not_le] at hc0
    refine WC.seq (fun K4 hK4 => ?_)
    refine WC.region ?_
    refine WL.op rfl (opW.assignI rfl ?_)
    refine WL.nil ?_
    refine thenQ_n (hK4 _ _ ?_)
    refine WC.ret ?_
    refine blockQ_r ?_
    refine thenQ_r ?_
    refine bodyQ_ret (.tmpI rfl .nil) ?_
    exact ⟨rfl, hS.old⟩
  ·
    have hr0 := hc0
    try simp only [decide_eq_true_eq, decide_eq_false_iff_not, Bool.and_eq_true, Bool.or_eq_true, Bool.and_eq_false_iff, Bool.or_eq_false_iff, Bool.not_eq_true', Bool.not_eq_false', Int.not_lt, Int.not_le] at hc0
    simp at hr0

theorem push_none (w0 : World) (p : Nat) (i : Int) (bv : Value) (hp : Pt w0 (.pointer (some ⟨p, 0, none⟩)) (Enc.enc (LaS.mk ⟨none, 0, 0⟩ ⟨none, 0, 0⟩))) : Ret Try.prog 15 #[.pointer (some ⟨p, 0, none⟩), .int .i64 i, bv] w0 (fun u w' => u = .int .i64 2 ∧ Bel w0 w') := by
  refine Ret.enter (args := [.pointer (some ⟨p, 0, none⟩), .int .i64 i, bv]) Try.func15 rfl Try.ntmps15 Try.results15 rfl ?_
  have hS := St.start w0
  refine WC.seq (fun K1 hK1 => ?_)
  refine WC.region ?_
  refine WL.op rfl (opW.assignI rfl ?_)
  refine WL.nil ?_
  refine thenQ_n (hK1 _ _ ?_)
  refine WC.seq (fun K2 hK2 => ?_)
  refine WC.block ?_
  refine WC.seq (fun K3 hK3 => ?_)
  refine WC.region ?_
  refine WL.op rfl (opW.moveV (v := .pointer (some ⟨p, 0, none⟩)) rfl ?_)
  refine WL.op rfl (opW.eqlP rfl rfl ?_)
  refine WL.op rfl (opW.moveB rfl ?_)
  refine WL.gT 10 rfl rfl rfl (WL.op rfl (opW.moveV (v := .pointer (some ⟨p, 0, none⟩)) rfl ?_))
  refine WL.gT 10 rfl rfl rfl (WL.op rfl (opW.nilCheckB rfl ?_))
  refine WL.gT 10 rfl rfl rfl (WL.op rfl (opW.fieldAddrB rfl ?_))
  refine WL.gT 10 rfl rfl rfl (WL.op rfl (opW.loadV rfl ((hp.bel hS.old).at1 (LaS.at_lanes _)) ?_))
  refine WL.gT 10 rfl rfl rfl (WL.op rfl (opW.eqlNil rfl rfl ?_))
  refine WL.op rfl (opW.pickT rfl rfl ?_)
  refine WL.op rfl (opW.assignB rfl ?_)
  refine WL.nil ?_
  refine thenQ_n (hK3 _ _ ?_)
  refine WC.cond _ rfl (fun hc0 => ?_) (fun hc0 => ?_)
  ·
    have hr0 := hc0
    try simp only [decide_eq_true_eq, decide_eq_false_iff_not, Bool.and_eq_true, Bool.or_eq_true, Bool.and_eq_false_iff, Bool.or_eq_false_iff, Bool.not_eq_true', Bool.not_eq_false', Int.not_lt, Int.not_le] at hc0
    refine WC.seq (fun K4 hK4 => ?_)
    refine WC.region ?_
    refine WL.op rfl (opW.assignI rfl ?_)
    refine WL.nil ?_
    refine thenQ_n (hK4 _ _ ?_)
    refine WC.ret ?_
    refine blockQ_r ?_
    refine thenQ_r ?_
    refine bodyQ_ret (.tmpI rfl .nil) ?_
    exact ⟨rfl, hS.old⟩
  ·
    have hr0 := hc0
    try simp only [decide_eq_true_eq, decide_eq_false_iff_not, Bool.and_eq_true, Bool.or_eq_true, Bool.and_eq_false_iff, Bool.or_eq_false_iff, Bool.not_eq_true', Bool.not_eq_false', Int.not_lt, Int.not_le] at hc0
    simp at hr0

theorem push_void (w0 : World) (v : Value) (i : Int) (bv : Value) (h : VoidP w0 v) : Ret Try.prog 15 #[v, .int .i64 i, bv] w0 (fun u w' => u = .int .i64 2 ∧ Bel w0 w') := by
  rcases h with rfl | ⟨p, rfl, hp⟩
  · exact push_nil w0 i bv
  · exact push_none w0 p i bv hp

theorem la_zero : (joinA [#[.slice none 0 0], #[.slice none 0 0]]) = Enc.enc (⟨⟨none, 0, 0⟩, ⟨none, 0, 0⟩⟩ : LaS) := by
  simp only [LaS.enc_eq, LaS.parts, enc_vz]; rfl

theorem void_law (w0 : World) (x : Act) : Ret Try.prog 4 #[.agg (Enc.enc x)] w0 (fun r w' => r = .bool true ∧ Bel w0 w') := by
  refine Ret.enter (args := [.agg (Enc.enc x)]) Try.func4 rfl Try.ntmps4 Try.results4 rfl ?_
  have hS := St.start w0
  refine WC.seq (fun K1 hK1 => ?_)
  refine WC.region ?_
  refine WL.op rfl (opW.boxA hS rfl ?_)
  intro b1 w _ hS
  refine WL.op rfl (opW.assignB rfl ?_)
  refine WL.nil ?_
  refine thenQ_n (hK1 _ _ ?_)
  refine WC.seq (fun K2 hK2 => ?_)
  refine WC.region ?_
  refine WL.op rfl (opW.allocA hS ?_)
  intro b3 w _ hS
  rw [la_zero] at hS
  refine WL.nil ?_
  refine thenQ_n (hK2 _ _ ?_)
  refine WC.seq (fun K3 hK3 => ?_)
  refine WC.region ?_
  refine WL.op rfl (opW.buildSl hS (([⟨none⟩, ⟨some b3⟩] : List PtV)) [.pointer none, .pointer (some ⟨b3, 0, none⟩)] rfl rfl rfl rfl (by decide) ?_)
  intro b8 w hw hS
  refine WL.op rfl (opW.assignV (v := (.slice (some ⟨b8, 0, none⟩) 2 2)) rfl ?_)
  refine WL.nil ?_
  refine thenQ_n (hK3 _ _ ?_)
  refine WC.seq (fun K4 hK4 => ?_)
  refine WC.seq (fun K5 hK5 => ?_)
  refine WC.region ?_
  refine WL.op rfl (opW.assignI rfl ?_)
  refine WL.nil ?_
  refine thenQ_n (hK5 _ _ ?_)
  refine WC.block ?_
  refine WC.loop (fun q f w => ∃ k : Nat, Fits [(1, .pointer (some ⟨b1, 0, none⟩)), (4, (.slice (some ⟨b8, 0, none⟩) 2 2)), (5, .int .i64 (k : Int))] f ∧ St w0 [ownE (.slice (some ⟨b8, 0, none⟩) 2 2) 25 ([⟨none⟩, ⟨some b3⟩] : List PtV), blkE b3 (Enc.enc (LaS.mk ⟨none, 0, 0⟩ ⟨none, 0, 0⟩)) 50, blkE b1 (Enc.enc x) 34] w ∧ k ≤ 2 ∧ q = 2 - k) (2) ?_ ?_
  ·
    exact ⟨0, ⟨rfl, rfl, rfl, trivial⟩, hS, Nat.zero_le _, rfl⟩
  ·
    rintro q f w ⟨k, hfit, hS, hk0, hm⟩
    refine WC.fits _ hfit (fun g => ?_)
    clear hfit
    refine WC.seq (fun K6 hK6 => ?_)
    refine WC.seq (fun K7 hK7 => ?_)
    refine WC.region ?_
    refine WL.op rfl (opW.moveI rfl ?_)
    refine WL.op rfl (opW.lss rfl rfl ?_)
    refine WL.nil ?_
    refine thenQ_n (hK7 _ _ ?_)
    refine WC.cond _ rfl (fun hc0 => ?_) (fun hc0 => ?_)
    ·
      have hr0 := hc0
      try simp only [decide_eq_true_eq, decide_eq_false_iff_not, Bool.and_eq_true, Bool.or_eq_true, Bool.and_eq_false_iff, Bool.or_eq_false_iff, Bool.not_eq_true', Bool.not_eq_false', Int.not_lt, Int.not_le] at hc0
      have hkl : k < ([⟨none⟩, ⟨some b3⟩] : List PtV).length := by show k < 2; omega
      have hv : VoidP w (([⟨none⟩, ⟨some b3⟩] : List PtV)[k]).v := by
        rcases (by omega : k = 0 ∨ k = 1) with rfl | rfl
        · exact .inl rfl
        · exact .inr ⟨b3, rfl, hS.pt (by first | exact .h0 | exact .h1 | exact .h2 | exact .h3 | exact .h4 | exact .h5 | exact .h6 | exact .h7 | exact .h8 | exact .h9 | exact .h10 | exact .h11 | exact .h12 | exact .h13 | exact .h14)⟩
      generalize hpv : (([⟨none⟩, ⟨some b3⟩] : List PtV)[k]).v = pv at hv
      refine WC.skip ?_
      refine thenQ_n (hK6 _ _ ?_)
      refine WC.seq (fun K8 hK8 => ?_)
      refine WC.block ?_
      refine WC.seq (fun K9 hK9 => ?_)
      refine WC.draw 12 (.look 0 (.look 1 (.look 2 (.look 3 (.look 4 (.look 5 (.one 6 (.look 7 (.look 8 (.look 9 (.look 10 (.look 11 .nil)))))))))))) (by kernel_rfl) (fun _ _ _ h => h) (fun w1 hw1 => ?_)
      replace hS := hS.bel hw1
      have hS1 := hS
      have hT := St.start w1
      replace hv := hv.bel hw1
      refine ML.look rfl rfl rfl (fun w hw => (by have hS := hS1.bel hw; exact opW.moveV (v := (.slice (some ⟨b8, 0, none⟩) 2 2)) rfl ⟨rfl, rfl⟩)) ?_
      refine ML.look rfl rfl rfl (fun w hw => (by have hS := hS1.bel hw; exact opW.moveI rfl ⟨rfl, rfl⟩)) ?_
      refine ML.look rfl rfl rfl (fun w hw => (by have hS := hS1.bel hw; exact opW.idxV rfl ((hS.sl (xs := ([⟨none⟩, ⟨some b3⟩] : List PtV)) (by first | exact .h0 | exact .h1 | exact .h2 | exact .h3 | exact .h4 | exact .h5 | exact .h6 | exact .h7 | exact .h8 | exact .h9 | exact .h10 | exact .h11 | exact .h12 | exact .h13 | exact .h14))) rfl (by omega) ⟨rfl, rfl⟩)) ?_
      refine ML.look rfl rfl rfl (fun w hw => (by have hS := hS1.bel hw; exact opW.loadV rfl (((hS.sl (xs := ([⟨none⟩, ⟨some b3⟩] : List PtV)) (by first | exact .h0 | exact .h1 | exact .h2 | exact .h3 | exact .h4 | exact .h5 | exact .h6 | exact .h7 | exact .h8 | exact .h9 | exact .h10 | exact .h11 | exact .h12 | exact .h13 | exact .h14)).isPt hkl).ldP hpv) ⟨rfl, rfl⟩)) ?_
      refine ML.look rfl rfl rfl (fun w hw => (by have hS := hS1.bel hw; exact opW.fieldAddrB rfl ⟨rfl, rfl⟩)) ?_
      refine ML.look rfl rfl rfl (fun w hw => (by have hS := hS1.bel hw; exact opW.loadV rfl (hS.ld1 (by first | exact .h0 | exact .h1 | exact .h2 | exact .h3 | exact .h4 | exact .h5 | exact .h6 | exact .h7 | exact .h8 | exact .h9 | exact .h10 | exact .h11 | exact .h12 | exact .h13 | exact .h14) (Act.at_worker _)) ⟨rfl, rfl⟩)) ?_
      refine ML.one rfl rfl rfl (opW.call (pop_void _ pv x.worker (hv.bel hT.old)) rfl ?_)
      rintro v w ⟨rfl, hw⟩; replace hT := hT.bel hw
      refine ⟨hT.old, ?_⟩
      have hS := hS1.merge hT
      try simp only [List.cons_append, List.nil_append] at hS
      refine ML.look rfl rfl rfl (fun w hw => (by have hS := hS1.bel hw; exact opW.moveV (v := .tuple #[.slice none 0 0, .bool false]) rfl ⟨rfl, rfl⟩)) ?_
      refine ML.look rfl rfl rfl (fun w hw => (by have hS := hS1.bel hw; exact opW.extract rfl rfl ⟨rfl, rfl⟩)) ?_
      refine ML.look rfl rfl rfl (fun w hw => (by have hS := hS1.bel hw; exact opW.extract rfl rfl ⟨rfl, rfl⟩)) ?_
      refine ML.look rfl rfl rfl (fun w hw => (by have hS := hS1.bel hw; exact opW.assignV (v := .slice none 0 0) rfl ⟨rfl, rfl⟩)) ?_
      refine ML.look rfl rfl rfl (fun w hw => (by have hS := hS1.bel hw; exact opW.assignB rfl ⟨rfl, rfl⟩)) ?_
      refine ML.nil ?_
      refine thenQ_n (hK9 _ _ ?_)
      refine WC.seq (fun K10 hK10 => ?_)
      refine WC.draw 37 (.look 0 (.look 1 (.look 2 (.look 3 (.look 4 (.look 5 (.look 6 (.look 7 (.one 8 (.look 9 (.look 10 (.look 11 (.look 12 (.look 13 (.look 14 (.look 15 (.look 16 (.look 17 (.look 18 (.look 19 (.look 20 (.look 21 (.look 22 (.look 23 (.look 24 (.one 25 (.look 26 (.look 27 (.look 28 (.look 29 (.look 30 (.look 31 (.look 32 (.one 33 (.one 34 (.look 35 (.look 36 .nil))))))))))))))))))))))))))))))))))))) (by kernel_rfl) (fun _ _ _ h => h) (fun w1 hw1 => ?_)
      replace hS := hS.bel hw1
      have hS1 := hS
      have hT := St.start w1
      replace hv := hv.bel (by first | exact hw1 | exact (Bel.trans ‹_› hw1))
      refine ML.look rfl rfl rfl (fun w hw => (by have hS := hS1.bel hw; exact opW.moveV (v := (.slice (some ⟨b8, 0, none⟩) 2 2)) rfl ⟨rfl, rfl⟩)) ?_
      refine ML.look rfl rfl rfl (fun w hw => (by have hS := hS1.bel hw; exact opW.moveI rfl ⟨rfl, rfl⟩)) ?_
      refine ML.look rfl rfl rfl (fun w hw => (by have hS := hS1.bel hw; exact opW.idxV rfl ((hS.sl (xs := ([⟨none⟩, ⟨some b3⟩] : List PtV)) (by first | exact .h0 | exact .h1 | exact .h2 | exact .h3 | exact .h4 | exact .h5 | exact .h6 | exact .h7 | exact .h8 | exact .h9 | exact .h10 | exact .h11 | exact .h12 | exact .h13 | exact .h14))) rfl (by omega) ⟨rfl, rfl⟩)) ?_
      refine ML.look rfl rfl rfl (fun w hw => (by have hS := hS1.bel hw; exact opW.loadV rfl (((hS.sl (xs := ([⟨none⟩, ⟨some b3⟩] : List PtV)) (by first | exact .h0 | exact .h1 | exact .h2 | exact .h3 | exact .h4 | exact .h5 | exact .h6 | exact .h7 | exact .h8 | exact .h9 | exact .h10 | exact .h11 | exact .h12 | exact .h13 | exact .h14)).isPt hkl).ldP hpv) ⟨rfl, rfl⟩)) ?_
      refine ML.look rfl rfl rfl (fun w hw => (by have hS := hS1.bel hw; exact opW.fieldAddrB rfl ⟨rfl, rfl⟩)) ?_
      refine ML.look rfl rfl rfl (fun w hw => (by have hS := hS1.bel hw; exact opW.loadV rfl (hS.ld1 (by first | exact .h0 | exact .h1 | exact .h2 | exact .h3 | exact .h4 | exact .h5 | exact .h6 | exact .h7 | exact .h8 | exact .h9 | exact .h10 | exact .h11 | exact .h12 | exact .h13 | exact .h14) (Act.at_worker _)) ⟨rfl, rfl⟩)) ?_
      refine ML.look rfl rfl rfl (fun w hw => (by have hS := hS1.bel hw; exact opW.fieldAddrB rfl ⟨rfl, rfl⟩)) ?_
      refine ML.look rfl rfl rfl (fun w hw => (by have hS := hS1.bel hw; exact opW.loadV rfl (hS.ld1 (by first | exact .h0 | exact .h1 | exact .h2 | exact .h3 | exact .h4 | exact .h5 | exact .h6 | exact .h7 | exact .h8 | exact .h9 | exact .h10 | exact .h11 | exact .h12 | exact .h13 | exact .h14) (Act.at_batch _)) ⟨rfl, rfl⟩)) ?_
      refine ML.one rfl rfl rfl (opW.call (push_void _ pv x.worker x.batch.v (hv.bel hT.old)) rfl ?_)
      rintro v w ⟨rfl, hw⟩; replace hT := hT.bel hw
      refine ⟨hT.old, ?_⟩
      have hS := hS1.merge hT
      try simp only [List.cons_append, List.nil_append] at hS
      refine ML.look rfl rfl rfl (fun w hw => (by have hS := hS1.bel hw; exact opW.boolF (by decide) (opW.neq rfl rfl ⟨rfl, rfl⟩) ⟨rfl, rfl⟩)) ?_
      refine ML.look rfl rfl rfl (fun w hw => (by have hS := hS1.bel hw; exact opW.moveB rfl ⟨rfl, rfl⟩)) ?_
      refine ML.lookT 33 rfl rfl rfl rfl rfl rfl (fun w hw => (by have hS := hS1.bel hw; exact opW.moveV (v := .slice none 0 0) rfl ⟨rfl, rfl⟩)) ?_
      refine ML.lookT 33 rfl rfl rfl rfl rfl rfl (fun w hw => (by have hS := hS1.bel hw; exact opW.lenV rfl (SlR.nil (α := I64) _) ⟨rfl, rfl⟩)) ?_
      refine ML.lookT 33 rfl rfl rfl rfl rfl rfl (fun w hw => (by have hS := hS1.bel hw; exact opW.boolF (by decide) (opW.neq rfl rfl ⟨rfl, rfl⟩) ⟨rfl, rfl⟩)) ?_
      refine ML.look rfl rfl rfl (fun w hw => (by have hS := hS1.bel hw; exact opW.pickT rfl rfl ⟨rfl, rfl⟩)) ?_
      refine ML.look rfl rfl rfl (fun w hw => (by have hS := hS1.bel hw; exact opW.moveB rfl ⟨rfl, rfl⟩)) ?_
      refine ML.lookT 38 rfl rfl rfl rfl rfl rfl (fun w hw => (by have hS := hS1.bel hw; exact opW.moveB rfl ⟨rfl, rfl⟩)) ?_
      refine ML.look rfl rfl rfl (fun w hw => (by have hS := hS1.bel hw; exact opW.pickT rfl rfl ⟨rfl, rfl⟩)) ?_
      refine ML.look rfl rfl rfl (fun w hw => (by have hS := hS1.bel hw; exact opW.moveB rfl ⟨rfl, rfl⟩)) ?_
      refine ML.lookT 41 rfl rfl rfl rfl rfl rfl (fun w hw => (by have hS := hS1.bel hw; exact opW.moveV (v := (.slice (some ⟨b8, 0, none⟩) 2 2)) rfl ⟨rfl, rfl⟩)) ?_
      refine ML.lookT 41 rfl rfl rfl rfl rfl rfl (fun w hw => (by have hS := hS1.bel hw; exact opW.moveI rfl ⟨rfl, rfl⟩)) ?_
      refine ML.lookT 41 rfl rfl rfl rfl rfl rfl (fun w hw => (by have hS := hS1.bel hw; exact opW.idxV rfl ((hS.sl (xs := ([⟨none⟩, ⟨some b3⟩] : List PtV)) (by first | exact .h0 | exact .h1 | exact .h2 | exact .h3 | exact .h4 | exact .h5 | exact .h6 | exact .h7 | exact .h8 | exact .h9 | exact .h10 | exact .h11 | exact .h12 | exact .h13 | exact .h14))) rfl (by omega) ⟨rfl, rfl⟩)) ?_
      refine ML.lookT 41 rfl rfl rfl rfl rfl rfl (fun w hw => (by have hS := hS1.bel hw; exact opW.loadV rfl (((hS.sl (xs := ([⟨none⟩, ⟨some b3⟩] : List PtV)) (by first | exact .h0 | exact .h1 | exact .h2 | exact .h3 | exact .h4 | exact .h5 | exact .h6 | exact .h7 | exact .h8 | exact .h9 | exact .h10 | exact .h11 | exact .h12 | exact .h13 | exact .h14)).isPt hkl).ldP hpv) ⟨rfl, rfl⟩)) ?_
      refine ML.lookT 41 rfl rfl rfl rfl rfl rfl (fun w hw => (by have hS := hS1.bel hw; exact opW.fieldAddrB rfl ⟨rfl, rfl⟩)) ?_
      refine ML.lookT 41 rfl rfl rfl rfl rfl rfl (fun w hw => (by have hS := hS1.bel hw; exact opW.loadV rfl (hS.ld1 (by first | exact .h0 | exact .h1 | exact .h2 | exact .h3 | exact .h4 | exact .h5 | exact .h6 | exact .h7 | exact .h8 | exact .h9 | exact .h10 | exact .h11 | exact .h12 | exact .h13 | exact .h14) (Act.at_worker _)) ⟨rfl, rfl⟩)) ?_
      refine ML.oneT 41 rfl rfl rfl rfl rfl rfl (opW.call (count_void _ pv x.worker (hv.bel hT.old)) rfl ?_)
      rintro v w ⟨rfl, hw⟩; replace hT := hT.bel hw
      refine ⟨hT.old, ?_⟩
      have hS := hS1.merge hT
      try simp only [List.cons_append, List.nil_append] at hS
      refine ML.lookT 41 rfl rfl rfl rfl rfl rfl (fun w hw => (by have hS := hS1.bel hw; exact opW.boolF (by decide) (opW.neq rfl rfl ⟨rfl, rfl⟩) ⟨rfl, rfl⟩)) ?_
      refine ML.look rfl rfl rfl (fun w hw => (by have hS := hS1.bel hw; exact opW.pickT rfl rfl ⟨rfl, rfl⟩)) ?_
      refine ML.look rfl rfl rfl (fun w hw => (by have hS := hS1.bel hw; exact opW.moveB rfl ⟨rfl, rfl⟩)) ?_
      refine ML.lookT 51 rfl rfl rfl rfl rfl rfl (fun w hw => (by have hS := hS1.bel hw; exact opW.moveV (v := (.slice (some ⟨b8, 0, none⟩) 2 2)) rfl ⟨rfl, rfl⟩)) ?_
      refine ML.lookT 51 rfl rfl rfl rfl rfl rfl (fun w hw => (by have hS := hS1.bel hw; exact opW.moveI rfl ⟨rfl, rfl⟩)) ?_
      refine ML.lookT 51 rfl rfl rfl rfl rfl rfl (fun w hw => (by have hS := hS1.bel hw; exact opW.idxV rfl ((hS.sl (xs := ([⟨none⟩, ⟨some b3⟩] : List PtV)) (by first | exact .h0 | exact .h1 | exact .h2 | exact .h3 | exact .h4 | exact .h5 | exact .h6 | exact .h7 | exact .h8 | exact .h9 | exact .h10 | exact .h11 | exact .h12 | exact .h13 | exact .h14))) rfl (by omega) ⟨rfl, rfl⟩)) ?_
      refine ML.lookT 51 rfl rfl rfl rfl rfl rfl (fun w hw => (by have hS := hS1.bel hw; exact opW.loadV rfl (((hS.sl (xs := ([⟨none⟩, ⟨some b3⟩] : List PtV)) (by first | exact .h0 | exact .h1 | exact .h2 | exact .h3 | exact .h4 | exact .h5 | exact .h6 | exact .h7 | exact .h8 | exact .h9 | exact .h10 | exact .h11 | exact .h12 | exact .h13 | exact .h14)).isPt hkl).ldP hpv) ⟨rfl, rfl⟩)) ?_
      refine ML.oneT 51 rfl rfl rfl rfl rfl rfl (opW.call (all_void _ pv (hv.bel hT.old)) rfl ?_)
      rintro v56 w ⟨hv56, hw⟩; replace hT := hT.bel hw
      refine ⟨hT.old, ?_⟩
      have hS := hS1.merge hT
      try simp only [List.cons_append, List.nil_append] at hS
      refine ML.oneT 51 rfl rfl rfl rfl rfl rfl (opW.lenV rfl (hv56) ?_)
      refine ⟨hT.old, ?_⟩
      have hS := hS1.merge hT
      try simp only [List.cons_append, List.nil_append] at hS
      refine ML.lookT 51 rfl rfl rfl rfl rfl rfl (fun w hw => (by have hS := hS1.bel hw; exact opW.boolF (by decide) (opW.neq rfl rfl ⟨rfl, rfl⟩) ⟨rfl, rfl⟩)) ?_
      refine ML.look rfl rfl rfl (fun w hw => (by have hS := hS1.bel hw; exact opW.pickT rfl rfl ⟨rfl, rfl⟩)) ?_
      refine ML.nil ?_
      refine thenQ_n (hK10 _ _ ?_)
      refine WC.cond _ rfl (fun hc1 => ?_) (fun hc1 => ?_)
      ·
        have hr1 := hc1
        try simp only [decide_eq_true_eq, decide_eq_false_iff_not, Bool.and_eq_true, Bool.or_eq_true, Bool.and_eq_false_iff, Bool.or_eq_false_iff, Bool.not_eq_true', Bool.not_eq_false', Int.not_lt, Int.not_le] at hc1
        simp at hr1
      ·
        have hr1 := hc1
        try simp only [decide_eq_true_eq, decide_eq_false_iff_not, Bool.and_eq_true, Bool.or_eq_true, Bool.and_eq_false_iff, Bool.or_eq_false_iff, Bool.not_eq_true', Bool.not_eq_false', Int.not_lt, Int.not_le] at hc1
        refine WC.skip ?_
        refine blockQ_n ?_
        refine thenQ_n (hK8 _ _ ?_)
        refine WC.region ?_
        refine WL.op rfl (opW.moveI rfl ?_)
        refine WL.op rfl (opW.add rfl rfl (wrap_i64 (by omega)) ?_)
        refine WL.op rfl (opW.assignI rfl ?_)
        refine WL.nil ?_
        refine thenQ_n ?_
        exact ⟨2 - (k + 1), by omega, k + 1, ⟨rfl, rfl, congrArg (Value.int .i64) (by omega), trivial⟩, hS, by omega, rfl⟩
    ·
      have hr0 := hc0
      try simp only [decide_eq_true_eq, decide_eq_false_iff_not, Bool.and_eq_true, Bool.or_eq_true, Bool.and_eq_false_iff, Bool.or_eq_false_iff, Bool.not_eq_true', Bool.not_eq_false', Int.not_lt, Int.not_le] at hc0
      refine WC.exit ?_
      refine thenQ_e ?_
      refine thenQ_e ?_
      refine blockQ_hit ?_
      refine thenQ_n (hK4 _ _ ?_)
      refine WC.seq (fun K11 hK11 => ?_)
      refine WC.region ?_
      refine WL.op rfl (opW.call (lives_ok _) rfl ?_)
      rintro _ w ⟨rfl, hw⟩; replace hS := hS.bel hw
      refine WL.op rfl (opW.assignB rfl ?_)
      refine WL.nil ?_
      refine thenQ_n (hK11 _ _ ?_)
      refine WC.ret ?_
      refine bodyQ_ret (.tmpB rfl .nil) ?_
      exact ⟨rfl, hS.old⟩

end Go.Fer
