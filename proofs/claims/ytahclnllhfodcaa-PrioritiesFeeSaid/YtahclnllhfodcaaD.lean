/- PrioritiesFee -/
import Derived.Test.YtahclnllhfodcaaC
set_option linter.all false
namespace Go.Fer
open Go Go.Proofs Go.RowKit

theorem fee_facts {p n : Nat} (hp : p ≤ 4294967295) (hn : n ≤ 4294967295) (k : Nat) (hk : k ≤ 255) {o : Nat} (ho : o = feeF 0 (⟨n, p, 0⟩ : Budget)) : p * n < 18446744073709551616 ∧ o * 1000000 < 18446744073709551616 ∧ p * n ≤ o * 1000000 ∧ (0 < o → (o - 1) * 1000000 < p * n) ∧ feeF (k : Int) (⟨n, p, 0⟩ : Budget) = o + 5000 * k ∧ o + 5000 * k < 18446744073709551616 := by
  have hb : p * n ≤ 4294967295 * 4294967295 := Nat.mul_le_mul hp hn
  have e1 : offF (⟨n, p, 0⟩ : Budget) = min (ceilD (p * n) 1000000) 18446744073709551615 := tm_up (by decide)
  have e2 (s : Int) (h : s.toNat ≤ 255) : baseF s = s.toNat * 5000 := by
    unfold baseF; rw [tm_down (by decide), Nat.div_one]; omega
  have e3 (s : Int) (h : s.toNat ≤ 255) : feeF s (⟨n, p, 0⟩ : Budget) = min (s.toNat * 5000 + min (ceilD (p * n) 1000000) 18446744073709551615) 18446744073709551615 := by
    unfold feeF; rw [sum2, e1, e2 s h]
  rw [e3 0 (by decide)] at ho
  rw [e3 k (by simpa using hk)]
  unfold ceilD at *
  simp only [Int.toNat_natCast]
  generalize p * n = z at *
  have : (0 : Int).toNat = 0 := rfl
  rw [this] at ho
  omega

theorem fee_law (w0 : World) (k p n : Nat) (hk : k ≤ 255) (hp : p ≤ 4294967295) (hn : n ≤ 4294967295) : Ret Try.prog 4 #[.int .u8 (k : Int), .int .u32 (p : Int), .int .u32 (n : Int)] w0 (fun r w' => r = .bool true ∧ Bel w0 w') := by
  refine Ret.enter (args := [.int .u8 (k : Int), .int .u32 (p : Int), .int .u32 (n : Int)]) Try.func4 rfl Try.ntmps4 Try.results4 rfl ?_
  have hS := St.start w0
  obtain ⟨o, ho⟩ : ∃ o, o = feeF 0 (⟨n, p, 0⟩ : Budget) := ⟨_, rfl⟩
  obtain ⟨f1, f2, f3, f4, f5, f6⟩ := fee_facts hp hn k hk ho
  refine WC.seq (fun K1 hK1 => ?_)
  refine WC.region ?_
  refine WL.op rfl (opW.assignB rfl ?_)
  refine WL.nil ?_
  refine thenQ_n (hK1 _ _ ?_)
  refine WC.seq (fun K2 hK2 => ?_)
  refine WC.region ?_
  refine WL.op rfl (opW.moveI rfl ?_)
  refine WL.op rfl (opW.conv rfl (wrap_u64 (by omega)) ?_)
  refine WL.op rfl (opW.moveI rfl ?_)
  refine WL.op rfl (opW.conv rfl (wrap_u64 (by omega)) ?_)
  refine WL.op rfl (opW.buildE (r := ((⟨n, p, 0⟩ : Budget) : Budget)) (ps := Budget.parts ((⟨n, p, 0⟩ : Budget) : Budget)) (Budget.enc_eq _) (by first | rfl | (simp only [enc_vset, enc_vz, Budget.enc_eq, Budget.parts, Payer.enc_eq, Payer.parts]; rfl)) (by (repeat' (first | exact trivial | refine And.intro ?_ ?_)) <;> first | rfl | exact Enc.size_eq _ | (simp; done)) ?_)
  refine WL.op rfl (opW.allocA hS ?_)
  intro b7 w _ hS
  refine WL.op0 (opW.storeE hS rfl rfl (by first | exact .here | exact .there (.here) | exact .there (.there (.here)) | exact .there (.there (.there (.here))) | exact .there (.there (.there (.there (.here)))) | exact .there (.there (.there (.there (.there (.here))))) | exact .there (.there (.there (.there (.there (.there (.here)))))) | exact .there (.there (.there (.there (.there (.there (.there (.here))))))) | exact .there (.there (.there (.there (.there (.there (.there (.there (.here)))))))) | exact .there (.there (.there (.there (.there (.there (.there (.there (.there (.here))))))))) | exact .there (.there (.there (.there (.there (.there (.there (.there (.there (.there (.here)))))))))) | exact .there (.there (.there (.there (.there (.there (.there (.there (.there (.there (.there (.here))))))))))) | exact .there (.there (.there (.there (.there (.there (.there (.there (.there (.there (.there (.there (.here))))))))))))) (by first | rfl | exact Enc.size_eq _) ?_)
  intro w hS; replace hS := hS _ (by first | exact .here | exact .there (.here) | exact .there (.there (.here)) | exact .there (.there (.there (.here))) | exact .there (.there (.there (.there (.here)))) | exact .there (.there (.there (.there (.there (.here))))) | exact .there (.there (.there (.there (.there (.there (.here)))))) | exact .there (.there (.there (.there (.there (.there (.there (.here))))))) | exact .there (.there (.there (.there (.there (.there (.there (.there (.here)))))))) | exact .there (.there (.there (.there (.there (.there (.there (.there (.there (.here))))))))) | exact .there (.there (.there (.there (.there (.there (.there (.there (.there (.there (.here)))))))))) | exact .there (.there (.there (.there (.there (.there (.there (.there (.there (.there (.there (.here))))))))))) | exact .there (.there (.there (.there (.there (.there (.there (.there (.there (.there (.there (.there (.here)))))))))))))
  refine WL.nil ?_
  refine thenQ_n (hK2 _ _ ?_)
  refine WC.seq (fun K3 hK3 => ?_)
  refine WC.region ?_
  refine WL.op rfl (opW.moveI rfl ?_)
  refine WL.op rfl (opW.conv rfl (wrap_u64 (by omega)) ?_)
  refine WL.op rfl (opW.moveI rfl ?_)
  refine WL.op rfl (opW.conv rfl (wrap_u64 (by omega)) ?_)
  refine WL.op rfl (opW.mul rfl rfl (nmul f1) ?_)
  refine WL.op rfl (opW.assignI rfl ?_)
  refine WL.nil ?_
  refine thenQ_n (hK3 _ _ ?_)
  refine WC.seq (fun K4 hK4 => ?_)
  refine WC.region ?_
  refine WL.op rfl (opW.loadV rfl (hS.ldA (cs := Enc.enc (⟨n, p, 0⟩ : Budget)) (by first | exact .here | exact .there (.here) | exact .there (.there (.here)) | exact .there (.there (.there (.here))) | exact .there (.there (.there (.there (.here)))) | exact .there (.there (.there (.there (.there (.here))))) | exact .there (.there (.there (.there (.there (.there (.here)))))) | exact .there (.there (.there (.there (.there (.there (.there (.here))))))) | exact .there (.there (.there (.there (.there (.there (.there (.there (.here)))))))) | exact .there (.there (.there (.there (.there (.there (.there (.there (.there (.here))))))))) | exact .there (.there (.there (.there (.there (.there (.there (.there (.there (.there (.here)))))))))) | exact .there (.there (.there (.there (.there (.there (.there (.there (.there (.there (.there (.here))))))))))) | exact .there (.there (.there (.there (.there (.there (.there (.there (.there (.there (.there (.there (.here))))))))))))) (Enc.size_eq _)) ?_)
  refine WL.op rfl (opW.call (fee_ok _ 0 (⟨n, p, 0⟩ : Budget) (by decide) ⟨by show n < _; omega, by show p < _; omega⟩) rfl ?_)
  rintro _ w ⟨rfl, hw⟩; replace hS := hS.bel hw
  rw [← ho]
  refine WL.op rfl (opW.assignI rfl ?_)
  refine WL.nil ?_
  refine thenQ_n (hK4 _ _ ?_)
  refine WC.seq (fun K5 hK5 => ?_)
  refine WC.seq (fun K6 hK6 => ?_)
  refine WC.region ?_
  refine WL.op rfl (opW.moveI rfl ?_)
  refine WL.op rfl (opW.mul rfl rfl (nmul (b := 1000000) f2) ?_)
  refine WL.op rfl (opW.moveI rfl ?_)
  refine WL.op rfl (opW.lss rfl rfl ?_)
  refine WL.op rfl (opW.moveB rfl ?_)
  refine WL.gd _ 26 _ rfl rfl rfl rfl (fun hg27 => opW.moveI rfl ⟨rfl, Bel.refl _⟩) (fun w hw => ?_)
  replace hS := hS.bel hw
  refine WL.gd _ 26 _ rfl rfl rfl rfl (fun hg28 => opW.gtr (by first | exact gv_of rfl hg28 | rfl) rfl ⟨rfl, Bel.refl _⟩) (fun w hw => ?_)
  replace hS := hS.bel hw
  refine WL.gd _ 26 _ rfl rfl rfl rfl (fun hg29 => opW.moveB (by first | exact gv_of rfl hg29 | rfl) ⟨rfl, Bel.refl _⟩) (fun w hw => ?_)
  replace hS := hS.bel hw
  refine WL.gd2 _ _ 29 _ rfl rfl rfl rfl (fun hg30 => opW.moveI rfl ⟨rfl, Bel.refl _⟩) (fun w hw => ?_)
  replace hS := hS.bel hw
  refine WL.gd2 _ _ 29 _ rfl rfl rfl rfl (fun hg31 => opW.sub (by first | exact gv_of rfl hg31 | rfl) rfl (nsubM o 1 (by decide)) ⟨rfl, Bel.refl _⟩) (fun w hw => ?_)
  replace hS := hS.bel hw
  refine WL.gd2 _ _ 29 _ rfl rfl rfl rfl (fun hg32 => opW.mul (by first | exact gv_of rfl hg32 | rfl) rfl (nmulM _ 1000000) ⟨rfl, Bel.refl _⟩) (fun w hw => ?_)
  replace hS := hS.bel hw
  refine WL.gd2 _ _ 29 _ rfl rfl rfl rfl (fun hg33 => opW.moveI rfl ⟨rfl, Bel.refl _⟩) (fun w hw => ?_)
  replace hS := hS.bel hw
  refine WL.gd2 _ _ 29 _ rfl rfl rfl rfl (fun hg34 => opW.geq (by first | exact gv_of rfl hg34 | rfl) (by first | exact gv_of rfl hg34 | rfl) ⟨rfl, Bel.refl _⟩) (fun w hw => ?_)
  replace hS := hS.bel hw
  refine WL.gd _ 26 _ rfl rfl rfl rfl (fun hg35 => opW.pickAnd (by first | exact gv_of rfl hg35 | rfl) (by first | exact gv_and rfl hg35 | rfl) rfl ⟨rfl, Bel.refl _⟩) (fun w hw => ?_)
  replace hS := hS.bel hw
  refine WL.op rfl (opW.pickOr rfl rfl (by first | rfl) ?_)
  refine WL.nil ?_
  refine thenQ_n (hK6 _ _ ?_)
  refine WC.cond _ rfl (fun hc0 => ?_) (fun hc0 => ?_)
  ·
    have hr0 := hc0
    try simp only [decide_eq_true_eq, decide_eq_false_iff_not, Bool.and_eq_true, Bool.or_eq_true, Bool.and_eq_false_iff, Bool.or_eq_false_iff, Bool.not_eq_true', Bool.not_eq_false', Int.not_lt, Int.not_le] at hc0
    simp only [Bool.or_eq_true, Bool.and_eq_true, decide_eq_true_eq] at hr0
    generalize p * n = z at *
    omega
  ·
    have hr0 := hc0
    try simp only [decide_eq_true_eq, decide_eq_false_iff_not, Bool.and_eq_true, Bool.or_eq_true, Bool.and_eq_false_iff, Bool.or_eq_false_iff, Bool.not_eq_true', Bool.not_eq_false', Int.not_lt, Int.not_le] at hc0
    refine WC.skip ?_
    refine thenQ_n (hK5 _ _ ?_)
    refine WC.seq (fun K7 hK7 => ?_)
    refine WC.region ?_
    refine WL.op rfl (opW.moveI rfl ?_)
    refine WL.op rfl (opW.conv rfl (wrap_i64 (by omega)) ?_)
    refine WL.op rfl (opW.loadV rfl (hS.ldA (cs := Enc.enc (⟨n, p, 0⟩ : Budget)) (by first | exact .here | exact .there (.here) | exact .there (.there (.here)) | exact .there (.there (.there (.here))) | exact .there (.there (.there (.there (.here)))) | exact .there (.there (.there (.there (.there (.here))))) | exact .there (.there (.there (.there (.there (.there (.here)))))) | exact .there (.there (.there (.there (.there (.there (.there (.here))))))) | exact .there (.there (.there (.there (.there (.there (.there (.there (.here)))))))) | exact .there (.there (.there (.there (.there (.there (.there (.there (.there (.here))))))))) | exact .there (.there (.there (.there (.there (.there (.there (.there (.there (.there (.here)))))))))) | exact .there (.there (.there (.there (.there (.there (.there (.there (.there (.there (.there (.here))))))))))) | exact .there (.there (.there (.there (.there (.there (.there (.there (.there (.there (.there (.there (.here))))))))))))) (Enc.size_eq _)) ?_)
    refine WL.op rfl (opW.call (fee_ok _ (k : Int) (⟨n, p, 0⟩ : Budget) (by omega) ⟨by show n < _; omega, by show p < _; omega⟩) rfl ?_)
    rintro _ w ⟨rfl, hw⟩; replace hS := hS.bel hw
    rw [f5]
    refine WL.op rfl (opW.moveI rfl ?_)
    refine WL.op rfl (opW.moveI rfl ?_)
    refine WL.op rfl (opW.conv rfl (wrap_u64 (by omega)) ?_)
    refine WL.op rfl (opW.mul rfl rfl (nmul (a := 5000) (by omega)) ?_)
    refine WL.op rfl (opW.add rfl rfl (nadd f6) ?_)
    refine WL.op rfl (opW.boolT (by simp) (opW.eql rfl rfl ⟨rfl, rfl⟩) ?_)
    refine WL.op rfl (opW.moveB rfl ?_)
    refine WL.gT 47 rfl rfl rfl (WL.op rfl (opW.call (lives10 _) rfl ?_))
    rintro _ w ⟨rfl, hw⟩; replace hS := hS.bel hw
    refine WL.op rfl (opW.pickT rfl rfl ?_)
    refine WL.op rfl (opW.assignB rfl ?_)
    refine WL.nil ?_
    refine thenQ_n (hK7 _ _ ?_)
    refine WC.ret ?_
    refine bodyQ_ret (.tmpB rfl .nil) ?_
    exact ⟨rfl, hS.old⟩

end Go.Fer
