/- ShortsOnly -/
import Derived.Test.YtiknpbndjnfjhaaD
set_option linter.all false
namespace Go.Fer
open Go Go.Proofs Go.RowKit

theorem ofNat_toNat8 (c : UInt8) : UInt8.ofNat c.toNat = c := by simp
theorem lo_of {n : Nat} {c : UInt8} (h : n % 128 + 128 = c.toNat) : lo n = c := by unfold lo; rw [h]; exact ofNat_toNat8 c
/-- what is taken as a short number, or why not -/
theorem gs_cases (b : List UInt8) : (gs b 0 0 = (0, 0, 4) ∨ gs b 0 0 = (0, 0, 5)) ∨ ∃ n k : Nat, gs b 0 0 = ((n : Int), (k : Int), 0) ∧ 1 ≤ k ∧ k ≤ 3 ∧ n ≤ 65535 ∧ k ≤ b.length ∧ shortB n = b.take k := by
  match b with
  | [] => exact .inl (.inr rfl)
  | c1 :: r =>
    have l1 := u8_lt c1
    by_cases h1 : c1.toNat < 128
    · refine .inr ⟨c1.toNat, 1, ?_, by omega, by omega, by omega, by simp, ?_⟩
      · have h2 : ((c1.toNat : Int) < 128) := by omega
        have h3 : c1.toNat % 128 = c1.toNat := by omega
        simp [gs, h2, h3]
      · unfold shortB; rw [if_pos h1, ofNat_toNat8]; rfl
    have e1 : gs (c1 :: r) 0 0 = gs r 1 (c1.toNat % 128) := by
      have h2 : ¬ ((c1.toNat : Int) < 128) := by omega
      simp [gs, h2]
    rw [e1]
    rcases r with _ | ⟨c2, r⟩
    · exact .inl (.inr rfl)
    ·
      have l2 := u8_lt c2
      by_cases z2 : c2.toNat = 0
      · exact .inl (.inl (by simp [gs, z2]))
      by_cases h2 : c2.toNat < 128
      · refine .inr ⟨c1.toNat % 128 + c2.toNat * 128, 2, ?_, by omega, by omega, by omega, by simp, ?_⟩
        · have h3 : ((c2.toNat : Int) < 128) := by omega
          have h4 : c2.toNat % 128 = c2.toNat := by omega
          have h5 : ¬ ((c2.toNat : Int) = 0) := by omega
          simp [gs, h3, h4, z2]
        · unfold shortB; rw [if_neg (by omega), if_pos (by omega), lo_of (c := c1) (by omega), show (c1.toNat % 128 + c2.toNat * 128) / 128 = c2.toNat by omega, ofNat_toNat8]; rfl
      have e2 : gs (c2 :: r) 1 (c1.toNat % 128) = gs r 2 (c1.toNat % 128 + c2.toNat % 128 * 128) := by
        have h3 : ¬ ((c2.toNat : Int) < 128) := by omega
        have h5 : ¬ ((c2.toNat : Int) = 0) := by omega
        simp [gs, h3, z2]
      rw [e2]
      rcases r with _ | ⟨c3, r⟩
      · exact .inl (.inr rfl)
      ·
        have l3 := u8_lt c3
        by_cases z3 : c3.toNat = 0
        · exact .inl (.inl (by simp [gs, z3]))
        by_cases g3 : 3 < c3.toNat
        · exact .inl (.inl (by simp [gs, g3]; omega))
        refine .inr ⟨c1.toNat % 128 + c2.toNat % 128 * 128 + c3.toNat * 16384, 3, ?_, by omega, by omega, by omega, by simp, ?_⟩
        · have h3 : ((c3.toNat : Int) < 128) := by omega
          have h4 : c3.toNat % 128 = c3.toNat := by omega
          have h6 : ¬ (3 < (c3.toNat : Int)) := by omega
          simp [gs, h3, h4, z3, h6]
        · unfold shortB; rw [if_neg (by omega), if_neg (by omega), lo_of (c := c1) (by omega), lo_of (c := c2) (by omega), show (c1.toNat % 128 + c2.toNat % 128 * 128 + c3.toNat * 16384) / 128 / 128 = c3.toNat by omega, ofNat_toNat8]; rfl

theorem only_law (w0 : World) (a : Vector UInt8 5) : Ret Try.prog 4 #[.agg (Enc.enc a)] w0 (fun r w' => r = .bool true ∧ Bel w0 w') := by
  refine Ret.enter (args := [.agg (Enc.enc a)]) Try.func4 rfl Try.ntmps4 Try.results4 rfl ?_
  have hS := St.start w0
  refine WC.seq (fun K1 hK1 => ?_)
  refine WC.region ?_
  refine WL.op rfl (opW.boxA hS rfl ?_)
  intro b1 w _ hS
  refine WL.op rfl (opW.assignB rfl ?_)
  refine WL.nil ?_
  refine thenQ_n (hK1 _ _ ?_)
  refine WC.seq (fun K2 hK2 => ?_)
  refine WC.region ?_
  refine WL.op rfl (opW.cutArr (h' := 5) rfl ⟨rfl, by decide⟩ ?_)
  refine WL.op rfl (opW.call (get_short _ _ (a.toList.take 5) (SlR.arr (hS.blk (by first | exact .here | exact .there (.here) | exact .there (.there (.here)) | exact .there (.there (.there (.here))) | exact .there (.there (.there (.there (.here)))) | exact .there (.there (.there (.there (.there (.here))))) | exact .there (.there (.there (.there (.there (.there (.here)))))) | exact .there (.there (.there (.there (.there (.there (.there (.here))))))) | exact .there (.there (.there (.there (.there (.there (.there (.there (.here)))))))))) (by decide) (by decide))) rfl ?_)
  rintro _ w ⟨rfl, hw⟩; replace hS := hS.bel hw
  refine WL.op rfl (opW.moveV (v := .tuple #[.int .i64 (gs (a.toList.take 5) 0 0).1, .int .i64 (gs (a.toList.take 5) 0 0).2.1, .int .i64 (gs (a.toList.take 5) 0 0).2.2]) rfl ?_)
  refine WL.op rfl (opW.extract rfl rfl ?_)
  refine WL.op rfl (opW.extract rfl rfl ?_)
  refine WL.op rfl (opW.extract rfl rfl ?_)
  refine WL.op rfl (opW.assignI rfl ?_)
  refine WL.op rfl (opW.assignI rfl ?_)
  refine WL.op rfl (opW.assignI rfl ?_)
  refine WL.nil ?_
  refine thenQ_n (hK2 _ _ ?_)
  refine WC.seq (fun K3 hK3 => ?_)
  refine WC.seq (fun K4 hK4 => ?_)
  refine WC.region ?_
  refine WL.op rfl (opW.moveI rfl ?_)
  refine WL.op rfl (opW.neq rfl rfl ?_)
  refine WL.nil ?_
  refine thenQ_n (hK4 _ _ ?_)
  refine WC.cond _ rfl (fun hc0 => ?_) (fun hc0 => ?_)
  ·
    have hr0 := hc0
    try simp only [decide_eq_true_eq, decide_eq_false_iff_not, Bool.and_eq_true, Bool.or_eq_true, Bool.and_eq_false_iff, Bool.or_eq_false_iff, Bool.not_eq_true', Bool.not_eq_false', Int.not_lt, Int.not_le] at hc0
    have hcs : gs (a.toList.take 5) 0 0 = (0, 0, 4) ∨ gs (a.toList.take 5) 0 0 = (0, 0, 5) := by
      rcases gs_cases (a.toList.take 5) with h | ⟨n, k, h, _⟩
      · exact h
      · rw [h] at hr0; simp at hr0
    refine WC.seq (fun K5 hK5 => ?_)
    refine WC.region ?_
    refine WL.op rfl (opW.moveI rfl ?_)
    refine WL.op rfl (opW.eql rfl rfl ?_)
    refine WL.op rfl (opW.moveB rfl ?_)
    refine WL.gd _ 16 _ rfl rfl rfl rfl (fun hg17 => opW.moveI rfl ⟨rfl, Bel.refl _⟩) (fun w hw => ?_)
    replace hS := hS.bel hw
    refine WL.gd _ 16 _ rfl rfl rfl rfl (fun hg18 => opW.eql (by first | rfl | exact gv_of rfl hg18) rfl ⟨rfl, Bel.refl _⟩) (fun w hw => ?_)
    replace hS := hS.bel hw
    refine WL.op rfl (opW.pickAnd rfl (by first | rfl) rfl ?_)
    refine WL.op rfl (opW.moveB rfl ?_)
    refine WL.gd _ 20 _ rfl rfl rfl rfl (fun hg21 => opW.moveI rfl ⟨rfl, Bel.refl _⟩) (fun w hw => ?_)
    replace hS := hS.bel hw
    refine WL.gd _ 20 _ rfl rfl rfl rfl (fun hg22 => opW.eql (by first | rfl | exact gv_of rfl hg22) rfl ⟨rfl, Bel.refl _⟩) (fun w hw => ?_)
    replace hS := hS.bel hw
    refine WL.gd _ 20 _ rfl rfl rfl rfl (fun hg23 => opW.moveB (by first | rfl | exact gv_of rfl hg23) ⟨rfl, Bel.refl _⟩) (fun w hw => ?_)
    replace hS := hS.bel hw
    refine WL.gd2 _ _ 23 _ rfl rfl rfl rfl (fun hg24 => opW.moveI rfl ⟨rfl, Bel.refl _⟩) (fun w hw => ?_)
    replace hS := hS.bel hw
    refine WL.gd2 _ _ 23 _ rfl rfl rfl rfl (fun hg25 => opW.eql (by first | rfl | exact gv_of rfl hg25) rfl ⟨rfl, Bel.refl _⟩) (fun w hw => ?_)
    replace hS := hS.bel hw
    refine WL.gd _ 20 _ rfl rfl rfl rfl (fun hg26 => opW.pickOr (by first | rfl | exact gv_of rfl hg26) rfl (by first | rfl | exact gv_and rfl hg26) ⟨rfl, Bel.refl _⟩) (fun w hw => ?_)
    replace hS := hS.bel hw
    refine WL.op rfl (opW.pickAnd rfl (by first | rfl) rfl ?_)
    refine WL.op rfl (opW.moveB rfl ?_)
    refine WL.gd _ 28 (.bool true) rfl rfl rfl rfl (fun hg29 => ?_) (fun w hw => ?_)
    · refine opW.call (lives01 _) rfl ?_
      rintro v w ⟨rfl, hw⟩; replace hS := hS.bel hw
      exact ⟨rfl, ‹_›⟩
    replace hS := hS.bel hw
    refine WL.op rfl (opW.pickAnd rfl (by first | rfl) rfl ?_)
    refine WL.op rfl (opW.assignB rfl ?_)
    refine WL.nil ?_
    refine thenQ_n (hK5 _ _ ?_)
    refine WC.ret ?_
    refine thenQ_r ?_
    refine bodyQ_ret (.tmpB rfl .nil) ?_
    refine ⟨?_, hS.old⟩
    rcases hcs with h | h <;> rw [h] <;> rfl
  ·
    have hr0 := hc0
    try simp only [decide_eq_true_eq, decide_eq_false_iff_not, Bool.and_eq_true, Bool.or_eq_true, Bool.and_eq_false_iff, Bool.or_eq_false_iff, Bool.not_eq_true', Bool.not_eq_false', Int.not_lt, Int.not_le] at hc0
    obtain ⟨n, k, he, k1, k3, hn, hkl, hB⟩ : ∃ n k : Nat, gs (a.toList.take 5) 0 0 = ((n : Int), (k : Int), 0) ∧ 1 ≤ k ∧ k ≤ 3 ∧ n ≤ 65535 ∧ k ≤ (a.toList.take 5).length ∧ shortB n = (a.toList.take 5).take k := by
      rcases gs_cases (a.toList.take 5) with (h | h) | h
      · rw [h] at hr0; simp at hr0
      · rw [h] at hr0; simp at hr0
      · exact h
    have hk5 : k ≤ 5 := by omega
    have hB2 : shortB n = a.toList.take k := by rw [hB, List.take_take]; congr 1; omega
    have h1 : (gs (a.toList.take 5) 0 0).1 = (n : Int) := by rw [he]
    have h2 : (gs (a.toList.take 5) 0 0).2.1 = (k : Int) := by rw [he]
    rw [h1, h2]
    refine WC.skip ?_
    refine thenQ_n (hK3 _ _ ?_)
    refine WC.seq (fun K6 hK6 => ?_)
    refine WC.draw 25 [(0, true), (1, true), (2, true), (3, true), (4, true), (5, true), (6, true), (7, true), (8, true), (9, true), (10, true), (11, true), (12, true), (13, true), (14, true), (15, true), (17, true), (18, true), (16, false), (19, false), (20, true), (21, true), (22, false), (23, true), (24, true)] (by kernel_rfl) (fun _ _ _ h => h) (fun w1 hw1 => ?_)
    replace hS := hS.bel hw1
    have hB1 := Bel.refl w1
    have hS1 := hS
    refine ML.look rfl rfl rfl (fun w hw => (by have hS := hS1.bel hw; exact opW.moveI rfl ⟨rfl, rfl⟩)) ?_
    refine ML.look rfl rfl rfl (fun w hw => (by have hS := hS1.bel hw; exact opW.boolT (by simp; omega) (opW.geq rfl rfl ⟨rfl, rfl⟩) ⟨rfl, rfl⟩)) ?_
    refine ML.look rfl rfl rfl (fun w hw => (by have hS := hS1.bel hw; exact opW.moveB rfl ⟨rfl, rfl⟩)) ?_
    refine ML.lookT 33 rfl rfl rfl rfl rfl rfl (fun w hw => (by have hS := hS1.bel hw; exact opW.moveI rfl ⟨rfl, rfl⟩)) ?_
    refine ML.lookT 33 rfl rfl rfl rfl rfl rfl (fun w hw => (by have hS := hS1.bel hw; exact opW.boolT (by simp; omega) (opW.leq rfl rfl ⟨rfl, rfl⟩) ⟨rfl, rfl⟩)) ?_
    refine ML.look rfl rfl rfl (fun w hw => (by have hS := hS1.bel hw; exact opW.pickT rfl rfl ⟨rfl, rfl⟩)) ?_
    refine ML.look rfl rfl rfl (fun w hw => (by have hS := hS1.bel hw; exact opW.moveB rfl ⟨rfl, rfl⟩)) ?_
    refine ML.lookT 37 rfl rfl rfl rfl rfl rfl (fun w hw => (by have hS := hS1.bel hw; exact opW.moveI rfl ⟨rfl, rfl⟩)) ?_
    refine ML.lookT 37 rfl rfl rfl rfl rfl rfl (fun w hw => (by have hS := hS1.bel hw; exact opW.boolT (by simp) (opW.geq rfl rfl ⟨rfl, rfl⟩) ⟨rfl, rfl⟩)) ?_
    refine ML.look rfl rfl rfl (fun w hw => (by have hS := hS1.bel hw; exact opW.pickT rfl rfl ⟨rfl, rfl⟩)) ?_
    refine ML.look rfl rfl rfl (fun w hw => (by have hS := hS1.bel hw; exact opW.moveB rfl ⟨rfl, rfl⟩)) ?_
    refine ML.lookT 41 rfl rfl rfl rfl rfl rfl (fun w hw => (by have hS := hS1.bel hw; exact opW.moveI rfl ⟨rfl, rfl⟩)) ?_
    refine ML.lookT 41 rfl rfl rfl rfl rfl rfl (fun w hw => (by have hS := hS1.bel hw; exact opW.boolT (by simp; omega) (opW.leq rfl rfl ⟨rfl, rfl⟩) ⟨rfl, rfl⟩)) ?_
    refine ML.look rfl rfl rfl (fun w hw => (by have hS := hS1.bel hw; exact opW.pickT rfl rfl ⟨rfl, rfl⟩)) ?_
    refine ML.look rfl rfl rfl (fun w hw => (by have hS := hS1.bel hw; exact opW.moveB rfl ⟨rfl, rfl⟩)) ?_
    refine ML.lookT 45 rfl rfl rfl rfl rfl rfl (fun w hw => (by have hS := hS1.bel hw; exact opW.moveI rfl ⟨rfl, rfl⟩)) ?_
    refine ML.lookT 45 rfl rfl rfl rfl rfl rfl (fun w hw => (by have hS := hS1.bel hw; exact opW.moveI rfl ⟨rfl, rfl⟩)) ?_
    refine ML.lookT 45 rfl rfl rfl rfl rfl rfl (fun w hw => (by have hS := hS1.bel hw; exact opW.cutArr (h' := k) rfl ⟨⟨_, rfl⟩, hk5⟩ ⟨rfl, rfl⟩)) ?_
    refine ML.oneT 45 rfl rfl rfl rfl rfl rfl (opW.call (put_ok _ n hn) rfl ?_)
    rintro v47 w ⟨hv47, hw⟩
    replace hS := hS.newOwn hw hv47.1 hv47.2
    replace hB1 := hB1.trans hw
    refine ⟨hB1, ?_⟩
    refine ML.oneT 45 rfl rfl rfl rfl rfl rfl (opW.call (sameBytes_ok _ _ _ (shortB n) (a.toList.take k) (hS.sl (by first | exact .here | exact .there (.here) | exact .there (.there (.here)) | exact .there (.there (.there (.here))) | exact .there (.there (.there (.there (.here)))) | exact .there (.there (.there (.there (.there (.here))))) | exact .there (.there (.there (.there (.there (.there (.here)))))) | exact .there (.there (.there (.there (.there (.there (.there (.here))))))) | exact .there (.there (.there (.there (.there (.there (.there (.there (.here)))))))))) (SlR.arr (hS.blk (by first | exact .here | exact .there (.here) | exact .there (.there (.here)) | exact .there (.there (.there (.here))) | exact .there (.there (.there (.there (.here)))) | exact .there (.there (.there (.there (.there (.here))))) | exact .there (.there (.there (.there (.there (.there (.here)))))) | exact .there (.there (.there (.there (.there (.there (.there (.here))))))) | exact .there (.there (.there (.there (.there (.there (.there (.there (.here)))))))))) hk5 (by decide))) rfl ?_)
    rintro _ w ⟨rfl, hw⟩; replace hS := hS.bel hw
    rw [show decide (shortB n = a.toList.take k) = true from by rw [hB2]; simp]
    replace hB1 := hB1.trans hw
    refine ⟨hB1, ?_⟩
    refine ML.look rfl rfl rfl (fun w hw => (by have hS := hS1.bel hw; exact opW.pickT rfl rfl ⟨rfl, rfl⟩)) ?_
    refine ML.look rfl rfl rfl (fun w hw => (by have hS := hS1.bel hw; exact opW.moveB rfl ⟨rfl, rfl⟩)) ?_
    refine ML.oneT 52 rfl rfl rfl rfl rfl rfl (opW.call (lives01 _) rfl ?_)
    rintro _ w ⟨rfl, hw⟩; replace hS := hS.bel hw
    replace hB1 := hB1.trans hw
    refine ⟨hB1, ?_⟩
    refine ML.look rfl rfl rfl (fun w hw => (by have hS := hS1.bel hw; exact opW.pickT rfl rfl ⟨rfl, rfl⟩)) ?_
    refine ML.look rfl rfl rfl (fun w hw => (by have hS := hS1.bel hw; exact opW.assignB rfl ⟨rfl, rfl⟩)) ?_
    refine ML.nil ?_
    refine thenQ_n (hK6 _ _ ?_)
    refine WC.ret ?_
    refine bodyQ_ret (.tmpB rfl .nil) ?_
    exact ⟨rfl, hS.old⟩

end Go.Fer
