/- SeensVoid -/
import Derived.Test.YtkklpbjgncpenaaD
set_option linter.all false
namespace Go.Fer
open Go Go.Proofs Go.RowKit

/-- one that is not there, or that no call made -/
def VoidP (w : World) (v : Value) : Prop := v = .pointer none ∨ ∃ p, v = .pointer (some ⟨p, 0, none⟩) ∧ Pt w v (Enc.enc (SeS.mk none none))
theorem VoidP.bel {w w' : World} {v : Value} (h : VoidP w v) (hb : Bel w w') : VoidP w' v := by
  rcases h with h | ⟨p, h1, h2⟩
  · exact .inl h
  · exact .inr ⟨p, h1, h2.bel hb⟩

theorem there_none (w0 : World) : Ret Try.prog 18 #[.pointer none] w0 (fun u w' => u = .bool false ∧ Bel w0 w') := by
  refine Ret.enter (args := [.pointer none]) Try.func18 rfl Try.ntmps18 Try.results18 rfl ?_
  have hS := St.start w0
  refine WC.seq (fun K1 hK1 => ?_)
  refine WC.region ?_
  refine WL.op rfl (opW.assignB rfl ?_)
  refine WL.nil ?_
  refine thenQ_n (hK1 _ _ ?_)
  refine WC.seq (fun K2 hK2 => ?_)
  refine WC.region ?_
  refine WL.op rfl (opW.moveV (v := .pointer none) rfl ?_)
  refine WL.op rfl (opW.neqP rfl rfl ?_)
  refine WL.op rfl (opW.moveB rfl ?_)
  refine WL.gF 5 rfl rfl rfl rfl ?_
  refine WL.gF 5 rfl rfl rfl rfl ?_
  refine WL.gF 5 rfl rfl rfl rfl ?_
  refine WL.gF 5 rfl rfl rfl rfl ?_
  refine WL.gF 5 rfl rfl rfl rfl ?_
  refine WL.op rfl (opW.pickT rfl rfl ?_)
  refine WL.op rfl (opW.assignB rfl ?_)
  refine WL.nil ?_
  refine thenQ_n (hK2 _ _ ?_)
  refine WC.ret ?_
  refine bodyQ_ret (.tmpB rfl .nil) ?_
  exact ⟨rfl, hS.old⟩

theorem there_zero (w0 : World) (p : Nat) (hp : Pt w0 (.pointer (some ⟨p, 0, none⟩)) (Enc.enc (SeS.mk none none))) : Ret Try.prog 18 #[.pointer (some ⟨p, 0, none⟩)] w0 (fun u w' => u = .bool false ∧ Bel w0 w') := by
  refine Ret.enter (args := [.pointer (some ⟨p, 0, none⟩)]) Try.func18 rfl Try.ntmps18 Try.results18 rfl ?_
  have hS := St.start w0
  refine WC.seq (fun K1 hK1 => ?_)
  refine WC.region ?_
  refine WL.op rfl (opW.assignB rfl ?_)
  refine WL.nil ?_
  refine thenQ_n (hK1 _ _ ?_)
  refine WC.seq (fun K2 hK2 => ?_)
  refine WC.region ?_
  refine WL.op rfl (opW.moveV (v := .pointer (some ⟨p, 0, none⟩)) rfl ?_)
  refine WL.op rfl (opW.neqP rfl rfl ?_)
  refine WL.op rfl (opW.moveB rfl ?_)
  refine WL.gT 5 rfl rfl rfl (WL.op rfl (opW.moveV (v := .pointer (some ⟨p, 0, none⟩)) rfl ?_))
  refine WL.gT 5 rfl rfl rfl (WL.op rfl (opW.nilCheckB rfl ?_))
  refine WL.gT 5 rfl rfl rfl (WL.op rfl (opW.fieldAddrB rfl ?_))
  refine WL.gT 5 rfl rfl rfl (WL.op rfl (opW.loadV rfl ((hp.bel hS.old).at1 (SeS.at_of _)) ?_))
  refine WL.gT 5 rfl rfl rfl (WL.op rfl (opW.neqM rfl rfl ?_))
  refine WL.op rfl (opW.pickT rfl rfl ?_)
  refine WL.op rfl (opW.assignB rfl ?_)
  refine WL.nil ?_
  refine thenQ_n (hK2 _ _ ?_)
  refine WC.ret ?_
  refine bodyQ_ret (.tmpB rfl .nil) ?_
  exact ⟨rfl, hS.old⟩

theorem there_void (w0 : World) (v : Value) (h : VoidP w0 v) : Ret Try.prog 18 #[v] w0 (fun u w' => u = .bool false ∧ Bel w0 w') := by
  rcases h with rfl | ⟨p, rfl, hp⟩
  · exact there_none w0
  · exact there_zero w0 p hp

theorem mark_void (w0 : World) (v : Value) (g : Sig) (h : Hash) (hv : VoidP w0 v) : Ret Try.prog 8 #[v, .agg (Enc.enc g), .agg (Enc.enc h)] w0 (fun u w' => u = .int .i64 2 ∧ Bel w0 w') := by
  refine Ret.enter (args := [v, .agg (Enc.enc g), .agg (Enc.enc h)]) Try.func8 rfl Try.ntmps8 Try.results8 rfl ?_
  have hS := St.start w0
  refine WC.seq (fun K1 hK1 => ?_)
  refine WC.region ?_
  refine WL.op rfl (opW.boxA hS rfl ?_)
  intro b4 w _ hS
  refine WL.op rfl (opW.boxA hS rfl ?_)
  intro b5 w _ hS
  refine WL.op rfl (opW.assignI rfl ?_)
  refine WL.nil ?_
  refine thenQ_n (hK1 _ _ ?_)
  refine WC.seq (fun K2 hK2 => ?_)
  refine WC.block ?_
  refine WC.seq (fun K3 hK3 => ?_)
  refine WC.region ?_
  refine WL.op rfl (opW.moveV (v := v) rfl ?_)
  refine WL.op rfl (opW.call (there_void _ v (hv.bel hS.old)) rfl ?_)
  rintro _ w ⟨rfl, hw⟩; replace hS := hS.bel hw
  refine WL.op rfl (opW.not rfl ?_)
  refine WL.op rfl (opW.assignB rfl ?_)
  refine WL.nil ?_
  refine thenQ_n (hK3 _ _ ?_)
  refine WC.cond _ rfl (fun hc0 => ?_) (fun hc0 => ?_)
  ·
    have hr0 := hc0
    try simp only [decide_eq_true_eq, decide_eq_false_iff_not, Bool.and_eq_true, Bool.or_eq_true, Bool.and_eq_false_iff, Bool.or_eq_false_iff, Bool.not_eq_true', Bool.not_eq_false', Int.not_lt, Int.not_le] at hc0
    refine WC.seq (fun K4 hK4 => ?_)
    refine WC.region ?_
    refine WL.op rfl (opW.assignI rfl ?_)
    refine WL.nil ?_
    refine thenQ_n (hK4 _ _ ?_)
    refine WC.ret ?_
    refine blockQ_r ?_
    refine thenQ_r ?_
    refine bodyQ_ret (.tmpI rfl .nil) ?_
    exact ⟨rfl, hS.old⟩
  ·
    have hr0 := hc0
    try simp only [decide_eq_true_eq, decide_eq_false_iff_not, Bool.and_eq_true, Bool.or_eq_true, Bool.and_eq_false_iff, Bool.or_eq_false_iff, Bool.not_eq_true', Bool.not_eq_false', Int.not_lt, Int.not_le] at hc0
    exact absurd hr0 (by decide)

theorem has_void (w0 : World) (v : Value) (g : Sig) (hv : VoidP w0 v) : Ret Try.prog 9 #[v, .agg (Enc.enc g)] w0 (fun u w' => u = .bool false ∧ Bel w0 w') := by
  refine Ret.enter (args := [v, .agg (Enc.enc g)]) Try.func9 rfl Try.ntmps9 Try.results9 rfl ?_
  have hS := St.start w0
  refine WC.seq (fun K1 hK1 => ?_)
  refine WC.region ?_
  refine WL.op rfl (opW.boxA hS rfl ?_)
  intro b3 w _ hS
  refine WL.op rfl (opW.assignB rfl ?_)
  refine WL.nil ?_
  refine thenQ_n (hK1 _ _ ?_)
  refine WC.seq (fun K2 hK2 => ?_)
  refine WC.seq (fun K3 hK3 => ?_)
  refine WC.region ?_
  refine WL.op rfl (opW.moveV (v := v) rfl ?_)
  refine WL.op rfl (opW.call (there_void _ v (hv.bel hS.old)) rfl ?_)
  rintro _ w ⟨rfl, hw⟩; replace hS := hS.bel hw
  refine WL.op rfl (opW.not rfl ?_)
  refine WL.nil ?_
  refine thenQ_n (hK3 _ _ ?_)
  refine WC.cond _ rfl (fun hc0 => ?_) (fun hc0 => ?_)
  ·
    have hr0 := hc0
    try simp only [decide_eq_true_eq, decide_eq_false_iff_not, Bool.and_eq_true, Bool.or_eq_true, Bool.and_eq_false_iff, Bool.or_eq_false_iff, Bool.not_eq_true', Bool.not_eq_false', Int.not_lt, Int.not_le] at hc0
    refine WC.seq (fun K4 hK4 => ?_)
    refine WC.region ?_
    refine WL.op rfl (opW.assignB rfl ?_)
    refine WL.nil ?_
    refine thenQ_n (hK4 _ _ ?_)
    refine WC.ret ?_
    refine thenQ_r ?_
    refine bodyQ_ret (.tmpB rfl .nil) ?_
    exact ⟨rfl, hS.old⟩
  ·
    have hr0 := hc0
    try simp only [decide_eq_true_eq, decide_eq_false_iff_not, Bool.and_eq_true, Bool.or_eq_true, Bool.and_eq_false_iff, Bool.or_eq_false_iff, Bool.not_eq_true', Bool.not_eq_false', Int.not_lt, Int.not_le] at hc0
    exact absurd hr0 (by decide)

theorem len_void (w0 : World) (v : Value) (hv : VoidP w0 v) : Ret Try.prog 10 #[v] w0 (fun u w' => u = .int .i64 0 ∧ Bel w0 w') := by
  refine Ret.enter (args := [v]) Try.func10 rfl Try.ntmps10 Try.results10 rfl ?_
  have hS := St.start w0
  refine WC.seq (fun K1 hK1 => ?_)
  refine WC.region ?_
  refine WL.op rfl (opW.assignI rfl ?_)
  refine WL.nil ?_
  refine thenQ_n (hK1 _ _ ?_)
  refine WC.seq (fun K2 hK2 => ?_)
  refine WC.seq (fun K3 hK3 => ?_)
  refine WC.region ?_
  refine WL.op rfl (opW.moveV (v := v) rfl ?_)
  refine WL.op rfl (opW.call (there_void _ v (hv.bel hS.old)) rfl ?_)
  rintro _ w ⟨rfl, hw⟩; replace hS := hS.bel hw
  refine WL.op rfl (opW.not rfl ?_)
  refine WL.nil ?_
  refine thenQ_n (hK3 _ _ ?_)
  refine WC.cond _ rfl (fun hc0 => ?_) (fun hc0 => ?_)
  ·
    have hr0 := hc0
    try simp only [decide_eq_true_eq, decide_eq_false_iff_not, Bool.and_eq_true, Bool.or_eq_true, Bool.and_eq_false_iff, Bool.or_eq_false_iff, Bool.not_eq_true', Bool.not_eq_false', Int.not_lt, Int.not_le] at hc0
    refine WC.seq (fun K4 hK4 => ?_)
    refine WC.region ?_
    refine WL.op rfl (opW.assignI rfl ?_)
    refine WL.nil ?_
    refine thenQ_n (hK4 _ _ ?_)
    refine WC.ret ?_
    refine thenQ_r ?_
    refine bodyQ_ret (.tmpI rfl .nil) ?_
    exact ⟨rfl, hS.old⟩
  ·
    have hr0 := hc0
    try simp only [decide_eq_true_eq, decide_eq_false_iff_not, Bool.and_eq_true, Bool.or_eq_true, Bool.and_eq_false_iff, Bool.or_eq_false_iff, Bool.not_eq_true', Bool.not_eq_false', Int.not_lt, Int.not_le] at hc0
    exact absurd hr0 (by decide)

theorem forget_void (w0 : World) (v : Value) (h : Hash) (hv : VoidP w0 v) : Ret Try.prog 11 #[v, .agg (Enc.enc h)] w0 (fun u w' => u = .int .i64 0 ∧ Bel w0 w') := by
  refine Ret.enter (args := [v, .agg (Enc.enc h)]) Try.func11 rfl Try.ntmps11 Try.results11 rfl ?_
  have hS := St.start w0
  refine WC.seq (fun K1 hK1 => ?_)
  refine WC.region ?_
  refine WL.op rfl (opW.boxA hS rfl ?_)
  intro b3 w _ hS
  refine WL.op rfl (opW.assignI rfl ?_)
  refine WL.nil ?_
  refine thenQ_n (hK1 _ _ ?_)
  refine WC.seq (fun K2 hK2 => ?_)
  refine WC.seq (fun K3 hK3 => ?_)
  refine WC.region ?_
  refine WL.op rfl (opW.moveV (v := v) rfl ?_)
  refine WL.op rfl (opW.call (there_void _ v (hv.bel hS.old)) rfl ?_)
  rintro _ w ⟨rfl, hw⟩; replace hS := hS.bel hw
  refine WL.op rfl (opW.not rfl ?_)
  refine WL.nil ?_
  refine thenQ_n (hK3 _ _ ?_)
  refine WC.cond _ rfl (fun hc0 => ?_) (fun hc0 => ?_)
  ·
    have hr0 := hc0
    try simp only [decide_eq_true_eq, decide_eq_false_iff_not, Bool.and_eq_true, Bool.or_eq_true, Bool.and_eq_false_iff, Bool.or_eq_false_iff, Bool.not_eq_true', Bool.not_eq_false', Int.not_lt, Int.not_le] at hc0
    refine WC.seq (fun K4 hK4 => ?_)
    refine WC.region ?_
    refine WL.op rfl (opW.assignI rfl ?_)
    refine WL.nil ?_
    refine thenQ_n (hK4 _ _ ?_)
    refine WC.ret ?_
    refine thenQ_r ?_
    refine bodyQ_ret (.tmpI rfl .nil) ?_
    exact ⟨rfl, hS.old⟩
  ·
    have hr0 := hc0
    try simp only [decide_eq_true_eq, decide_eq_false_iff_not, Bool.and_eq_true, Bool.or_eq_true, Bool.and_eq_false_iff, Bool.or_eq_false_iff, Bool.not_eq_true', Bool.not_eq_false', Int.not_lt, Int.not_le] at hc0
    exact absurd hr0 (by decide)

theorem copy_void (w0 : World) (v : Value) (hv : VoidP w0 v) : Ret Try.prog 15 #[v] w0 (fun u w' => u = .pointer none ∧ Bel w0 w') := by
  refine Ret.enter (args := [v]) Try.func15 rfl Try.ntmps15 Try.results15 rfl ?_
  have hS := St.start w0
  refine WC.seq (fun K1 hK1 => ?_)
  refine WC.region ?_
  refine WL.op rfl (opW.assignV (v := .pointer none) rfl ?_)
  refine WL.nil ?_
  refine thenQ_n (hK1 _ _ ?_)
  refine WC.seq (fun K2 hK2 => ?_)
  refine WC.seq (fun K3 hK3 => ?_)
  refine WC.region ?_
  refine WL.op rfl (opW.moveV (v := v) rfl ?_)
  refine WL.op rfl (opW.call (there_void _ v (hv.bel hS.old)) rfl ?_)
  rintro _ w ⟨rfl, hw⟩; replace hS := hS.bel hw
  refine WL.op rfl (opW.not rfl ?_)
  refine WL.nil ?_
  refine thenQ_n (hK3 _ _ ?_)
  refine WC.cond _ rfl (fun hc0 => ?_) (fun hc0 => ?_)
  ·
    have hr0 := hc0
    try simp only [decide_eq_true_eq, decide_eq_false_iff_not, Bool.and_eq_true, Bool.or_eq_true, Bool.and_eq_false_iff, Bool.or_eq_false_iff, Bool.not_eq_true', Bool.not_eq_false', Int.not_lt, Int.not_le] at hc0
    refine WC.seq (fun K4 hK4 => ?_)
    refine WC.region ?_
    refine WL.op rfl (opW.assignV (v := .pointer none) rfl ?_)
    refine WL.nil ?_
    refine thenQ_n (hK4 _ _ ?_)
    refine WC.ret ?_
    refine thenQ_r ?_
    refine bodyQ_ret (.tmpV (v := .pointer none) rfl .nil) ?_
    exact ⟨rfl, hS.old⟩
  ·
    have hr0 := hc0
    try simp only [decide_eq_true_eq, decide_eq_false_iff_not, Bool.and_eq_true, Bool.or_eq_true, Bool.and_eq_false_iff, Bool.or_eq_false_iff, Bool.not_eq_true', Bool.not_eq_false', Int.not_lt, Int.not_le] at hc0
    exact absurd hr0 (by decide)

theorem void_law (w0 : World) (sg : Sig) (h : Hash) : Ret Try.prog 5 #[.agg (Enc.enc sg), .agg (Enc.enc h)] w0 (fun r w' => r = .bool true ∧ Bel w0 w') := by
  refine Ret.enter (args := [.agg (Enc.enc sg), .agg (Enc.enc h)]) Try.func5 rfl Try.ntmps5 Try.results5 rfl ?_
  have hS := St.start w0
  refine WC.seq (fun K1 hK1 => ?_)
  refine WC.region ?_
  refine WL.op rfl (opW.boxA hS rfl ?_)
  intro b2 w _ hS
  refine WL.op rfl (opW.boxA hS rfl ?_)
  intro b3 w _ hS
  refine WL.op rfl (opW.assignB rfl ?_)
  refine WL.nil ?_
  refine thenQ_n (hK1 _ _ ?_)
  refine WC.seq (fun K2 hK2 => ?_)
  refine WC.region ?_
  refine WL.op rfl (opW.allocA hS ?_)
  intro b5 w _ hS
  refine WL.nil ?_
  refine thenQ_n (hK2 _ _ ?_)
  refine WC.seq (fun K3 hK3 => ?_)
  refine WC.region ?_
  refine WL.op rfl (opW.buildSl hS (([⟨none⟩, ⟨some b5⟩] : List PtV)) [.pointer none, .pointer (some ⟨b5, 0, none⟩)] rfl rfl rfl rfl (by decide) ?_)
  intro b8 w hw hS
  refine WL.op rfl (opW.assignV (v := (.slice (some ⟨b8, 0, none⟩) 2 2)) rfl ?_)
  refine WL.nil ?_
  refine thenQ_n (hK3 _ _ ?_)
  refine WC.seq (fun K4 hK4 => ?_)
  refine WC.seq (fun K5 hK5 => ?_)
  refine WC.region ?_
  refine WL.op rfl (opW.assignI rfl ?_)
  refine WL.nil ?_
  refine thenQ_n (hK5 _ _ ?_)
  refine WC.block ?_
  refine WC.loop (fun q f w => ∃ k : Nat, Fits [(2, .pointer (some ⟨b2, 0, none⟩)), (3, .pointer (some ⟨b3, 0, none⟩)), (6, (.slice (some ⟨b8, 0, none⟩) 2 2)), (7, .int .i64 (k : Int))] f ∧ St w0 [ownE (.slice (some ⟨b8, 0, none⟩) 2 2) 26 ([⟨none⟩, ⟨some b5⟩] : List PtV), blkE b5 (Enc.enc (SeS.mk none none)) 45, blkE b3 (Enc.enc h) 24, blkE b2 (Enc.enc sg) 31] w ∧ k ≤ 2 ∧ q = 2 - k) (2) ?_ ?_
  ·
    exact ⟨0, ⟨rfl, rfl, rfl, rfl, trivial⟩, hS, Nat.zero_le _, rfl⟩
  ·
    rintro q f w ⟨k, hfit, hS, hk0, hm⟩
    refine WC.fits _ hfit (fun g => ?_)
    clear hfit
    refine WC.seq (fun K6 hK6 => ?_)
    refine WC.seq (fun K7 hK7 => ?_)
    refine WC.region ?_
    refine WL.op rfl (opW.moveI rfl ?_)
    refine WL.op rfl (opW.lss rfl rfl ?_)
    refine WL.nil ?_
    refine thenQ_n (hK7 _ _ ?_)
    refine WC.cond _ rfl (fun hc0 => ?_) (fun hc0 => ?_)
    ·
      have hr0 := hc0
      try simp only [decide_eq_true_eq, decide_eq_false_iff_not, Bool.and_eq_true, Bool.or_eq_true, Bool.and_eq_false_iff, Bool.or_eq_false_iff, Bool.not_eq_true', Bool.not_eq_false', Int.not_lt, Int.not_le] at hc0
      have hkl : k < ([⟨none⟩, ⟨some b5⟩] : List PtV).length := by show k < 2; omega
      have hv : VoidP w (([⟨none⟩, ⟨some b5⟩] : List PtV)[k]).v := by
        rcases (by omega : k = 0 ∨ k = 1) with rfl | rfl
        · exact .inl rfl
        · exact .inr ⟨b5, rfl, hS.pt (by first | exact .here | exact .there (.here) | exact .there (.there (.here)) | exact .there (.there (.there (.here))) | exact .there (.there (.there (.there (.here)))) | exact .there (.there (.there (.there (.there (.here))))) | exact .there (.there (.there (.there (.there (.there (.here)))))) | exact .there (.there (.there (.there (.there (.there (.there (.here))))))) | exact .there (.there (.there (.there (.there (.there (.there (.there (.here)))))))))⟩
      generalize hpv : (([⟨none⟩, ⟨some b5⟩] : List PtV)[k]).v = pv at hv
      refine WC.skip ?_
      refine thenQ_n (hK6 _ _ ?_)
      refine WC.seq (fun K8 hK8 => ?_)
      refine WC.block ?_
      refine WC.seq (fun K9 hK9 => ?_)
      refine WC.draw 41 [(0, .look), (1, .look), (2, .look), (3, .look), (4, .look), (5, .look), (6, .one), (7, .look), (8, .look), (9, .look), (10, .look), (11, .look), (12, .look), (13, .look), (14, .one), (15, .look), (16, .look), (17, .look), (18, .look), (19, .look), (20, .look), (21, .look), (22, .one), (23, .look), (24, .look), (25, .look), (26, .look), (27, .look), (28, .look), (29, .look), (30, .one), (31, .look), (32, .look), (33, .look), (34, .look), (35, .look), (36, .look), (37, .look), (38, .one), (39, .look), (40, .look)] (by kernel_rfl) (fun _ _ _ h => h) (fun w1 hw1 => ?_)
      replace hS := hS.bel hw1
      have hS1 := hS
      have hT := St.start w1
      replace hv := hv.bel hw1
      refine ML.look rfl rfl rfl (fun w hw => (by have hS := hS1.bel hw; exact opW.moveV (v := (.slice (some ⟨b8, 0, none⟩) 2 2)) rfl ⟨rfl, rfl⟩)) ?_
      refine ML.look rfl rfl rfl (fun w hw => (by have hS := hS1.bel hw; exact opW.moveI rfl ⟨rfl, rfl⟩)) ?_
      refine ML.look rfl rfl rfl (fun w hw => (by have hS := hS1.bel hw; exact opW.idxV rfl ((hS.sl (xs := ([⟨none⟩, ⟨some b5⟩] : List PtV)) (by first | exact .here | exact .there (.here) | exact .there (.there (.here)) | exact .there (.there (.there (.here))) | exact .there (.there (.there (.there (.here)))) | exact .there (.there (.there (.there (.there (.here))))) | exact .there (.there (.there (.there (.there (.there (.here)))))) | exact .there (.there (.there (.there (.there (.there (.there (.here))))))) | exact .there (.there (.there (.there (.there (.there (.there (.there (.here))))))))))) rfl (by omega) ⟨rfl, rfl⟩)) ?_
      refine ML.look rfl rfl rfl (fun w hw => (by have hS := hS1.bel hw; exact opW.loadV rfl (((hS.sl (xs := ([⟨none⟩, ⟨some b5⟩] : List PtV)) (by first | exact .here | exact .there (.here) | exact .there (.there (.here)) | exact .there (.there (.there (.here))) | exact .there (.there (.there (.there (.here)))) | exact .there (.there (.there (.there (.there (.here))))) | exact .there (.there (.there (.there (.there (.there (.here)))))) | exact .there (.there (.there (.there (.there (.there (.there (.here))))))) | exact .there (.there (.there (.there (.there (.there (.there (.there (.here)))))))))).isPt hkl).ldP hpv) ⟨rfl, rfl⟩)) ?_
      refine ML.look rfl rfl rfl (fun w hw => (by have hS := hS1.bel hw; exact opW.loadV rfl (hS.ldA (cs := Enc.enc sg) (by first | exact .here | exact .there (.here) | exact .there (.there (.here)) | exact .there (.there (.there (.here))) | exact .there (.there (.there (.there (.here)))) | exact .there (.there (.there (.there (.there (.here))))) | exact .there (.there (.there (.there (.there (.there (.here)))))) | exact .there (.there (.there (.there (.there (.there (.there (.here))))))) | exact .there (.there (.there (.there (.there (.there (.there (.there (.here))))))))) (Enc.size_eq _)) ⟨rfl, rfl⟩)) ?_
      refine ML.look rfl rfl rfl (fun w hw => (by have hS := hS1.bel hw; exact opW.loadV rfl (hS.ldA (cs := Enc.enc h) (by first | exact .here | exact .there (.here) | exact .there (.there (.here)) | exact .there (.there (.there (.here))) | exact .there (.there (.there (.there (.here)))) | exact .there (.there (.there (.there (.there (.here))))) | exact .there (.there (.there (.there (.there (.there (.here)))))) | exact .there (.there (.there (.there (.there (.there (.there (.here))))))) | exact .there (.there (.there (.there (.there (.there (.there (.there (.here))))))))) (Enc.size_eq _)) ⟨rfl, rfl⟩)) ?_
      refine ML.one rfl rfl rfl (opW.call (mark_void _ pv sg h (hv.bel hT.old)) rfl ?_)
      rintro v w ⟨rfl, hw⟩; replace hT := hT.bel hw
      refine ⟨hT.old, ?_⟩
      have hS := hS1.merge hT
      try simp only [List.cons_append, List.nil_append] at hS
      refine ML.look rfl rfl rfl (fun w hw => (by have hS := hS1.bel hw; exact opW.boolF (by decide) (opW.neq rfl rfl ⟨rfl, rfl⟩) ⟨rfl, rfl⟩)) ?_
      refine ML.look rfl rfl rfl (fun w hw => (by have hS := hS1.bel hw; exact opW.moveB rfl ⟨rfl, rfl⟩)) ?_
      refine ML.lookT 21 rfl rfl rfl rfl rfl rfl (fun w hw => (by have hS := hS1.bel hw; exact opW.moveV (v := (.slice (some ⟨b8, 0, none⟩) 2 2)) rfl ⟨rfl, rfl⟩)) ?_
      refine ML.lookT 21 rfl rfl rfl rfl rfl rfl (fun w hw => (by have hS := hS1.bel hw; exact opW.moveI rfl ⟨rfl, rfl⟩)) ?_
      refine ML.lookT 21 rfl rfl rfl rfl rfl rfl (fun w hw => (by have hS := hS1.bel hw; exact opW.idxV rfl ((hS.sl (xs := ([⟨none⟩, ⟨some b5⟩] : List PtV)) (by first | exact .here | exact .there (.here) | exact .there (.there (.here)) | exact .there (.there (.there (.here))) | exact .there (.there (.there (.there (.here)))) | exact .there (.there (.there (.there (.there (.here))))) | exact .there (.there (.there (.there (.there (.there (.here)))))) | exact .there (.there (.there (.there (.there (.there (.there (.here))))))) | exact .there (.there (.there (.there (.there (.there (.there (.there (.here))))))))))) rfl (by omega) ⟨rfl, rfl⟩)) ?_
      refine ML.lookT 21 rfl rfl rfl rfl rfl rfl (fun w hw => (by have hS := hS1.bel hw; exact opW.loadV rfl (((hS.sl (xs := ([⟨none⟩, ⟨some b5⟩] : List PtV)) (by first | exact .here | exact .there (.here) | exact .there (.there (.here)) | exact .there (.there (.there (.here))) | exact .there (.there (.there (.there (.here)))) | exact .there (.there (.there (.there (.there (.here))))) | exact .there (.there (.there (.there (.there (.there (.here)))))) | exact .there (.there (.there (.there (.there (.there (.there (.here))))))) | exact .there (.there (.there (.there (.there (.there (.there (.there (.here)))))))))).isPt hkl).ldP hpv) ⟨rfl, rfl⟩)) ?_
      refine ML.lookT 21 rfl rfl rfl rfl rfl rfl (fun w hw => (by have hS := hS1.bel hw; exact opW.loadV rfl (hS.ldA (cs := Enc.enc sg) (by first | exact .here | exact .there (.here) | exact .there (.there (.here)) | exact .there (.there (.there (.here))) | exact .there (.there (.there (.there (.here)))) | exact .there (.there (.there (.there (.there (.here))))) | exact .there (.there (.there (.there (.there (.there (.here)))))) | exact .there (.there (.there (.there (.there (.there (.there (.here))))))) | exact .there (.there (.there (.there (.there (.there (.there (.there (.here))))))))) (Enc.size_eq _)) ⟨rfl, rfl⟩)) ?_
      refine ML.oneT 21 rfl rfl rfl rfl rfl rfl (opW.call (has_void _ pv sg (hv.bel hT.old)) rfl ?_)
      rintro v w ⟨rfl, hw⟩; replace hT := hT.bel hw
      refine ⟨hT.old, ?_⟩
      have hS := hS1.merge hT
      try simp only [List.cons_append, List.nil_append] at hS
      refine ML.look rfl rfl rfl (fun w hw => (by have hS := hS1.bel hw; exact opW.pickT rfl rfl ⟨rfl, rfl⟩)) ?_
      refine ML.look rfl rfl rfl (fun w hw => (by have hS := hS1.bel hw; exact opW.moveB rfl ⟨rfl, rfl⟩)) ?_
      refine ML.lookT 29 rfl rfl rfl rfl rfl rfl (fun w hw => (by have hS := hS1.bel hw; exact opW.moveV (v := (.slice (some ⟨b8, 0, none⟩) 2 2)) rfl ⟨rfl, rfl⟩)) ?_
      refine ML.lookT 29 rfl rfl rfl rfl rfl rfl (fun w hw => (by have hS := hS1.bel hw; exact opW.moveI rfl ⟨rfl, rfl⟩)) ?_
      refine ML.lookT 29 rfl rfl rfl rfl rfl rfl (fun w hw => (by have hS := hS1.bel hw; exact opW.idxV rfl ((hS.sl (xs := ([⟨none⟩, ⟨some b5⟩] : List PtV)) (by first | exact .here | exact .there (.here) | exact .there (.there (.here)) | exact .there (.there (.there (.here))) | exact .there (.there (.there (.there (.here)))) | exact .there (.there (.there (.there (.there (.here))))) | exact .there (.there (.there (.there (.there (.there (.here)))))) | exact .there (.there (.there (.there (.there (.there (.there (.here))))))) | exact .there (.there (.there (.there (.there (.there (.there (.there (.here))))))))))) rfl (by omega) ⟨rfl, rfl⟩)) ?_
      refine ML.lookT 29 rfl rfl rfl rfl rfl rfl (fun w hw => (by have hS := hS1.bel hw; exact opW.loadV rfl (((hS.sl (xs := ([⟨none⟩, ⟨some b5⟩] : List PtV)) (by first | exact .here | exact .there (.here) | exact .there (.there (.here)) | exact .there (.there (.there (.here))) | exact .there (.there (.there (.there (.here)))) | exact .there (.there (.there (.there (.there (.here))))) | exact .there (.there (.there (.there (.there (.there (.here)))))) | exact .there (.there (.there (.there (.there (.there (.there (.here))))))) | exact .there (.there (.there (.there (.there (.there (.there (.there (.here)))))))))).isPt hkl).ldP hpv) ⟨rfl, rfl⟩)) ?_
      refine ML.lookT 29 rfl rfl rfl rfl rfl rfl (fun w hw => (by have hS := hS1.bel hw; exact opW.loadV rfl (hS.ldA (cs := Enc.enc h) (by first | exact .here | exact .there (.here) | exact .there (.there (.here)) | exact .there (.there (.there (.here))) | exact .there (.there (.there (.there (.here)))) | exact .there (.there (.there (.there (.there (.here))))) | exact .there (.there (.there (.there (.there (.there (.here)))))) | exact .there (.there (.there (.there (.there (.there (.there (.here))))))) | exact .there (.there (.there (.there (.there (.there (.there (.there (.here))))))))) (Enc.size_eq _)) ⟨rfl, rfl⟩)) ?_
      refine ML.oneT 29 rfl rfl rfl rfl rfl rfl (opW.call (forget_void _ pv h (hv.bel hT.old)) rfl ?_)
      rintro v w ⟨rfl, hw⟩; replace hT := hT.bel hw
      refine ⟨hT.old, ?_⟩
      have hS := hS1.merge hT
      try simp only [List.cons_append, List.nil_append] at hS
      refine ML.lookT 29 rfl rfl rfl rfl rfl rfl (fun w hw => (by have hS := hS1.bel hw; exact opW.boolF (by decide) (opW.neq rfl rfl ⟨rfl, rfl⟩) ⟨rfl, rfl⟩)) ?_
      refine ML.look rfl rfl rfl (fun w hw => (by have hS := hS1.bel hw; exact opW.pickT rfl rfl ⟨rfl, rfl⟩)) ?_
      refine ML.look rfl rfl rfl (fun w hw => (by have hS := hS1.bel hw; exact opW.moveB rfl ⟨rfl, rfl⟩)) ?_
      refine ML.lookT 38 rfl rfl rfl rfl rfl rfl (fun w hw => (by have hS := hS1.bel hw; exact opW.moveV (v := (.slice (some ⟨b8, 0, none⟩) 2 2)) rfl ⟨rfl, rfl⟩)) ?_
      refine ML.lookT 38 rfl rfl rfl rfl rfl rfl (fun w hw => (by have hS := hS1.bel hw; exact opW.moveI rfl ⟨rfl, rfl⟩)) ?_
      refine ML.lookT 38 rfl rfl rfl rfl rfl rfl (fun w hw => (by have hS := hS1.bel hw; exact opW.idxV rfl ((hS.sl (xs := ([⟨none⟩, ⟨some b5⟩] : List PtV)) (by first | exact .here | exact .there (.here) | exact .there (.there (.here)) | exact .there (.there (.there (.here))) | exact .there (.there (.there (.there (.here)))) | exact .there (.there (.there (.there (.there (.here))))) | exact .there (.there (.there (.there (.there (.there (.here)))))) | exact .there (.there (.there (.there (.there (.there (.there (.here))))))) | exact .there (.there (.there (.there (.there (.there (.there (.there (.here))))))))))) rfl (by omega) ⟨rfl, rfl⟩)) ?_
      refine ML.lookT 38 rfl rfl rfl rfl rfl rfl (fun w hw => (by have hS := hS1.bel hw; exact opW.loadV rfl (((hS.sl (xs := ([⟨none⟩, ⟨some b5⟩] : List PtV)) (by first | exact .here | exact .there (.here) | exact .there (.there (.here)) | exact .there (.there (.there (.here))) | exact .there (.there (.there (.there (.here)))) | exact .there (.there (.there (.there (.there (.here))))) | exact .there (.there (.there (.there (.there (.there (.here)))))) | exact .there (.there (.there (.there (.there (.there (.there (.here))))))) | exact .there (.there (.there (.there (.there (.there (.there (.there (.here)))))))))).isPt hkl).ldP hpv) ⟨rfl, rfl⟩)) ?_
      refine ML.oneT 38 rfl rfl rfl rfl rfl rfl (opW.call (len_void _ pv (hv.bel hT.old)) rfl ?_)
      rintro v w ⟨rfl, hw⟩; replace hT := hT.bel hw
      refine ⟨hT.old, ?_⟩
      have hS := hS1.merge hT
      try simp only [List.cons_append, List.nil_append] at hS
      refine ML.lookT 38 rfl rfl rfl rfl rfl rfl (fun w hw => (by have hS := hS1.bel hw; exact opW.boolF (by decide) (opW.neq rfl rfl ⟨rfl, rfl⟩) ⟨rfl, rfl⟩)) ?_
      refine ML.look rfl rfl rfl (fun w hw => (by have hS := hS1.bel hw; exact opW.pickT rfl rfl ⟨rfl, rfl⟩)) ?_
      refine ML.look rfl rfl rfl (fun w hw => (by have hS := hS1.bel hw; exact opW.moveB rfl ⟨rfl, rfl⟩)) ?_
      refine ML.lookT 46 rfl rfl rfl rfl rfl rfl (fun w hw => (by have hS := hS1.bel hw; exact opW.moveV (v := (.slice (some ⟨b8, 0, none⟩) 2 2)) rfl ⟨rfl, rfl⟩)) ?_
      refine ML.lookT 46 rfl rfl rfl rfl rfl rfl (fun w hw => (by have hS := hS1.bel hw; exact opW.moveI rfl ⟨rfl, rfl⟩)) ?_
      refine ML.lookT 46 rfl rfl rfl rfl rfl rfl (fun w hw => (by have hS := hS1.bel hw; exact opW.idxV rfl ((hS.sl (xs := ([⟨none⟩, ⟨some b5⟩] : List PtV)) (by first | exact .here | exact .there (.here) | exact .there (.there (.here)) | exact .there (.there (.there (.here))) | exact .there (.there (.there (.there (.here)))) | exact .there (.there (.there (.there (.there (.here))))) | exact .there (.there (.there (.there (.there (.there (.here)))))) | exact .there (.there (.there (.there (.there (.there (.there (.here))))))) | exact .there (.there (.there (.there (.there (.there (.there (.there (.here))))))))))) rfl (by omega) ⟨rfl, rfl⟩)) ?_
      refine ML.lookT 46 rfl rfl rfl rfl rfl rfl (fun w hw => (by have hS := hS1.bel hw; exact opW.loadV rfl (((hS.sl (xs := ([⟨none⟩, ⟨some b5⟩] : List PtV)) (by first | exact .here | exact .there (.here) | exact .there (.there (.here)) | exact .there (.there (.there (.here))) | exact .there (.there (.there (.there (.here)))) | exact .there (.there (.there (.there (.there (.here))))) | exact .there (.there (.there (.there (.there (.there (.here)))))) | exact .there (.there (.there (.there (.there (.there (.there (.here))))))) | exact .there (.there (.there (.there (.there (.there (.there (.there (.here)))))))))).isPt hkl).ldP hpv) ⟨rfl, rfl⟩)) ?_
      refine ML.oneT 46 rfl rfl rfl rfl rfl rfl (opW.call (copy_void _ pv (hv.bel hT.old)) rfl ?_)
      rintro v w ⟨rfl, hw⟩; replace hT := hT.bel hw
      refine ⟨hT.old, ?_⟩
      have hS := hS1.merge hT
      try simp only [List.cons_append, List.nil_append] at hS
      refine ML.lookT 46 rfl rfl rfl rfl rfl rfl (fun w hw => (by have hS := hS1.bel hw; exact opW.neqP (a := none) rfl rfl ⟨rfl, rfl⟩)) ?_
      refine ML.look rfl rfl rfl (fun w hw => (by have hS := hS1.bel hw; exact opW.pickT rfl rfl ⟨rfl, rfl⟩)) ?_
      refine ML.nil ?_
      refine thenQ_n (hK9 _ _ ?_)
      refine WC.cond _ rfl (fun hc1 => ?_) (fun hc1 => ?_)
      ·
        have hr1 := hc1
        try simp only [decide_eq_true_eq, decide_eq_false_iff_not, Bool.and_eq_true, Bool.or_eq_true, Bool.and_eq_false_iff, Bool.or_eq_false_iff, Bool.not_eq_true', Bool.not_eq_false', Int.not_lt, Int.not_le] at hc1
        exact absurd hr1 (by decide)
      ·
        have hr1 := hc1
        try simp only [decide_eq_true_eq, decide_eq_false_iff_not, Bool.and_eq_true, Bool.or_eq_true, Bool.and_eq_false_iff, Bool.or_eq_false_iff, Bool.not_eq_true', Bool.not_eq_false', Int.not_lt, Int.not_le] at hc1
        refine WC.skip ?_
        refine blockQ_n ?_
        refine thenQ_n (hK8 _ _ ?_)
        refine WC.region ?_
        refine WL.op rfl (opW.moveI rfl ?_)
        refine WL.op rfl (opW.add rfl rfl (wrap_i64 (by omega)) ?_)
        refine WL.op rfl (opW.assignI rfl ?_)
        refine WL.nil ?_
        refine thenQ_n ?_
        exact ⟨2 - (k + 1), by omega, k + 1, ⟨rfl, rfl, rfl, congrArg (Value.int .i64) (by omega), trivial⟩, hS, by omega, rfl⟩
    ·
      have hr0 := hc0
      try simp only [decide_eq_true_eq, decide_eq_false_iff_not, Bool.and_eq_true, Bool.or_eq_true, Bool.and_eq_false_iff, Bool.or_eq_false_iff, Bool.not_eq_true', Bool.not_eq_false', Int.not_lt, Int.not_le] at hc0
      refine WC.exit ?_
      refine thenQ_e ?_
      refine thenQ_e ?_
      refine blockQ_hit ?_
      refine thenQ_n (hK4 _ _ ?_)
      refine WC.seq (fun K10 hK10 => ?_)
      refine WC.region ?_
      refine WL.op rfl (opW.call (lives25 _) rfl ?_)
      rintro _ w ⟨rfl, hw⟩; replace hS := hS.bel hw
      refine WL.op rfl (opW.assignB rfl ?_)
      refine WL.nil ?_
      refine thenQ_n (hK10 _ _ ?_)
      refine WC.ret ?_
      refine bodyQ_ret (.tmpB rfl .nil) ?_
      exact ⟨rfl, hS.old⟩

end Go.Fer
