/- PrioritiesCost -/
import Derived.Test.YtahclnllhfodcaaC
set_option linter.all false
namespace Go.Fer
open Go Go.Proofs Go.RowKit

theorem ceil_small {z : Nat} (h : z ≤ 1399998600000) : ceilD z 1000000 < 1400001 := by
  unfold ceilD
  rw [Nat.div_lt_iff_lt_mul (by decide)]
  omega
theorem cost_facts {b : Budget} (hp : b.price < 1000000) (hn : b.units < 1400001) (k c : Nat) (hk : k ≤ 255) (hc : c ≤ 4294967295) {o n : Nat} (ho : o = feeF 0 b) (hn' : n = prioF (k : Int) b c) :
    o < 1400001 ∧ (5000 * k / 2 + o) * 1000000 < 18446744073709551616 ∧ n * (c + 1) ≤ (5000 * k / 2 + o) * 1000000 ∧ (5000 * k / 2 + o) * 1000000 < (n + 1) * (c + 1) ∧ (n + 1) * (c + 1) < 18446744073709551616 ∧ n ≤ (5000 * k / 2 + o) * 1000000 := by
  have hb : b.price * b.units ≤ 1399998600000 := by
    have := Nat.mul_le_mul (show b.price ≤ 999999 by omega) (show b.units ≤ 1400000 by omega)
    exact this
  have hcs := ceil_small hb
  have e1 : offF b = ceilD (b.price * b.units) 1000000 := by
    unfold offF
    rw [tm_up (by decide)]
    exact Nat.min_eq_left (Nat.le_trans (Nat.le_of_lt hcs) (by decide))
  have e2 : baseF (k : Int) = k * 5000 := by unfold baseF; rw [tm_down (by decide), Nat.div_one, Int.toNat_natCast]; omega
  have e4 : o = ceilD (b.price * b.units) 1000000 := by
    rw [ho]; unfold feeF; rw [sum2, e1]
    have e3 : baseF 0 = 0 := by decide
    rw [e3, Nat.zero_add]
    exact Nat.min_eq_left (Nat.le_trans (Nat.le_of_lt hcs) (by decide))
  have ho2 : o < 1400001 := by rw [e4]; exact hcs
  have e5 : n = (5000 * k / 2 + o) * 1000000 / (c + 1) := by
    rw [hn']
    unfold prioF
    rw [sum2, sum2, e2, e1, ← e4, Nat.min_eq_left (show k * 5000 / 2 + o ≤ 18446744073709551615 by omega), Nat.min_eq_left (show c + 1 ≤ 18446744073709551615 by omega), tm_down (Nat.succ_ne_zero c), Nat.mul_comm k 5000]
    exact Nat.min_eq_left (Nat.le_trans (Nat.div_le_self _ _) (by omega))
  have h1 := Nat.div_add_mod' ((5000 * k / 2 + o) * 1000000) (c + 1)
  have h2 := Nat.mod_lt ((5000 * k / 2 + o) * 1000000) (show 0 < c + 1 by omega)
  have h3 := Nat.div_le_self ((5000 * k / 2 + o) * 1000000) (c + 1)
  rw [← e5] at h1 h3
  rw [Nat.add_mul n 1, Nat.one_mul]
  generalize n * (c + 1) = z at *
  refine ⟨ho2, by omega, by omega, by omega, by omega, by omega⟩

theorem cost_law (w0 : World) (k c : Nat) (b0 : Budget) (hk : k ≤ 255) (hc : c ≤ 4294967295) : Ret Try.prog 5 #[.int .u8 (k : Int), .agg (Enc.enc b0), .int .u32 (c : Int)] w0 (fun r w' => r = .bool true ∧ Bel w0 w') := by
  refine Ret.enter (args := [.int .u8 (k : Int), .agg (Enc.enc b0), .int .u32 (c : Int)]) Try.func5 rfl Try.ntmps5 Try.results5 rfl ?_
  have hS := St.start w0
  obtain ⟨o, ho⟩ : ∃ o, o = feeF 0 (⟨b0.units % 1400001, b0.price % 1000000, 0⟩ : Budget) := ⟨_, rfl⟩
  obtain ⟨n, hn⟩ : ∃ n, n = prioF (k : Int) (⟨b0.units % 1400001, b0.price % 1000000, 0⟩ : Budget) c := ⟨_, rfl⟩
  obtain ⟨f1, f2, f3, f4, f5, f6⟩ := cost_facts (b := (⟨b0.units % 1400001, b0.price % 1000000, 0⟩ : Budget)) (by show b0.price % 1000000 < _; omega) (by show b0.units % 1400001 < _; omega) k c hk hc ho hn
  refine WC.seq (fun K1 hK1 => ?_)
  refine WC.region ?_
  refine WL.op rfl (opW.boxA hS rfl ?_)
  intro b4 w _ hS
  refine WL.op rfl (opW.assignB rfl ?_)
  refine WL.nil ?_
  refine thenQ_n (hK1 _ _ ?_)
  refine WC.seq (fun K2 hK2 => ?_)
  refine WC.region ?_
  refine WL.op rfl (opW.fieldAddrB rfl ?_)
  refine WL.op rfl (opW.loadV rfl (hS.ld1 (by first | exact .here | exact .there (.here) | exact .there (.there (.here)) | exact .there (.there (.there (.here))) | exact .there (.there (.there (.there (.here)))) | exact .there (.there (.there (.there (.there (.here))))) | exact .there (.there (.there (.there (.there (.there (.here)))))) | exact .there (.there (.there (.there (.there (.there (.there (.here))))))) | exact .there (.there (.there (.there (.there (.there (.there (.there (.here)))))))) | exact .there (.there (.there (.there (.there (.there (.there (.there (.there (.here))))))))) | exact .there (.there (.there (.there (.there (.there (.there (.there (.there (.there (.here)))))))))) | exact .there (.there (.there (.there (.there (.there (.there (.there (.there (.there (.there (.here))))))))))) | exact .there (.there (.there (.there (.there (.there (.there (.there (.there (.there (.there (.there (.here))))))))))))) (Budget.at_price b0)) ?_)
  refine WL.op rfl (opW.rem rfl rfl (by omega) (tmod_nat _ 1000000) ?_)
  refine WL.op rfl (opW.fieldAddrB rfl ?_)
  refine WL.op rfl (opW.loadV rfl (hS.ld1 (by first | exact .here | exact .there (.here) | exact .there (.there (.here)) | exact .there (.there (.there (.here))) | exact .there (.there (.there (.there (.here)))) | exact .there (.there (.there (.there (.there (.here))))) | exact .there (.there (.there (.there (.there (.there (.here)))))) | exact .there (.there (.there (.there (.there (.there (.there (.here))))))) | exact .there (.there (.there (.there (.there (.there (.there (.there (.here)))))))) | exact .there (.there (.there (.there (.there (.there (.there (.there (.there (.here))))))))) | exact .there (.there (.there (.there (.there (.there (.there (.there (.there (.there (.here)))))))))) | exact .there (.there (.there (.there (.there (.there (.there (.there (.there (.there (.there (.here))))))))))) | exact .there (.there (.there (.there (.there (.there (.there (.there (.there (.there (.there (.there (.here))))))))))))) (Budget.at_units b0)) ?_)
  refine WL.op rfl (opW.rem rfl rfl (by omega) (tmod_nat _ 1400001) ?_)
  refine WL.op rfl (opW.buildE (r := ((⟨b0.units % 1400001, b0.price % 1000000, 0⟩ : Budget) : Budget)) (ps := Budget.parts ((⟨b0.units % 1400001, b0.price % 1000000, 0⟩ : Budget) : Budget)) (Budget.enc_eq _) (by first | rfl | (simp only [enc_vset, enc_vz, Budget.enc_eq, Budget.parts, Payer.enc_eq, Payer.parts]; rfl)) (by (repeat' (first | exact trivial | refine And.intro ?_ ?_)) <;> first | rfl | exact Enc.size_eq _ | (simp; done)) ?_)
  refine WL.op rfl (opW.allocA hS ?_)
  intro b7 w _ hS
  refine WL.op0 (opW.storeE hS rfl rfl (by first | exact .here | exact .there (.here) | exact .there (.there (.here)) | exact .there (.there (.there (.here))) | exact .there (.there (.there (.there (.here)))) | exact .there (.there (.there (.there (.there (.here))))) | exact .there (.there (.there (.there (.there (.there (.here)))))) | exact .there (.there (.there (.there (.there (.there (.there (.here))))))) | exact .there (.there (.there (.there (.there (.there (.there (.there (.here)))))))) | exact .there (.there (.there (.there (.there (.there (.there (.there (.there (.here))))))))) | exact .there (.there (.there (.there (.there (.there (.there (.there (.there (.there (.here)))))))))) | exact .there (.there (.there (.there (.there (.there (.there (.there (.there (.there (.there (.here))))))))))) | exact .there (.there (.there (.there (.there (.there (.there (.there (.there (.there (.there (.there (.here))))))))))))) (by first | rfl | exact Enc.size_eq _) ?_)
  intro w hS; replace hS := hS _ (by first | exact .here | exact .there (.here) | exact .there (.there (.here)) | exact .there (.there (.there (.here))) | exact .there (.there (.there (.there (.here)))) | exact .there (.there (.there (.there (.there (.here))))) | exact .there (.there (.there (.there (.there (.there (.here)))))) | exact .there (.there (.there (.there (.there (.there (.there (.here))))))) | exact .there (.there (.there (.there (.there (.there (.there (.there (.here)))))))) | exact .there (.there (.there (.there (.there (.there (.there (.there (.there (.here))))))))) | exact .there (.there (.there (.there (.there (.there (.there (.there (.there (.there (.here)))))))))) | exact .there (.there (.there (.there (.there (.there (.there (.there (.there (.there (.there (.here))))))))))) | exact .there (.there (.there (.there (.there (.there (.there (.there (.there (.there (.there (.there (.here)))))))))))))
  refine WL.nil ?_
  refine thenQ_n (hK2 _ _ ?_)
  refine WC.seq (fun K3 hK3 => ?_)
  refine WC.region ?_
  refine WL.op rfl (opW.moveI rfl ?_)
  refine WL.op rfl (opW.conv rfl (wrap_u64 (by omega)) ?_)
  refine WL.op rfl (opW.mul rfl rfl (nmul (a := 5000) (by omega)) ?_)
  refine WL.op rfl (opW.quo rfl rfl (by omega) (nquo (b := 2) (by omega)) ?_)
  refine WL.op rfl (opW.loadV rfl (hS.ldA (cs := Enc.enc (⟨b0.units % 1400001, b0.price % 1000000, 0⟩ : Budget)) (by first | exact .here | exact .there (.here) | exact .there (.there (.here)) | exact .there (.there (.there (.here))) | exact .there (.there (.there (.there (.here)))) | exact .there (.there (.there (.there (.there (.here))))) | exact .there (.there (.there (.there (.there (.there (.here)))))) | exact .there (.there (.there (.there (.there (.there (.there (.here))))))) | exact .there (.there (.there (.there (.there (.there (.there (.there (.here)))))))) | exact .there (.there (.there (.there (.there (.there (.there (.there (.there (.here))))))))) | exact .there (.there (.there (.there (.there (.there (.there (.there (.there (.there (.here)))))))))) | exact .there (.there (.there (.there (.there (.there (.there (.there (.there (.there (.there (.here))))))))))) | exact .there (.there (.there (.there (.there (.there (.there (.there (.there (.there (.there (.there (.here))))))))))))) (Enc.size_eq _)) ?_)
  refine WL.op rfl (opW.call (fee_ok _ 0 (⟨b0.units % 1400001, b0.price % 1000000, 0⟩ : Budget) (by decide) ⟨by show b0.units % 1400001 < _; omega, by show b0.price % 1000000 < _; omega⟩) rfl ?_)
  rintro _ w ⟨rfl, hw⟩; replace hS := hS.bel hw
  rw [← ho]
  refine WL.op rfl (opW.add rfl rfl (nadd (by omega)) ?_)
  refine WL.op rfl (opW.mul rfl rfl (nmul (b := 1000000) (by omega)) ?_)
  refine WL.op rfl (opW.assignI rfl ?_)
  refine WL.nil ?_
  refine thenQ_n (hK3 _ _ ?_)
  refine WC.seq (fun K4 hK4 => ?_)
  refine WC.region ?_
  refine WL.op rfl (opW.moveI rfl ?_)
  refine WL.op rfl (opW.conv rfl (wrap_u64 (by omega)) ?_)
  refine WL.op rfl (opW.add rfl rfl (nadd (b := 1) (by omega)) ?_)
  refine WL.op rfl (opW.assignI rfl ?_)
  refine WL.nil ?_
  refine thenQ_n (hK4 _ _ ?_)
  refine WC.seq (fun K5 hK5 => ?_)
  refine WC.region ?_
  refine WL.op rfl (opW.moveI rfl ?_)
  refine WL.op rfl (opW.conv rfl (wrap_i64 (by omega)) ?_)
  refine WL.op rfl (opW.loadV rfl (hS.ldA (cs := Enc.enc (⟨b0.units % 1400001, b0.price % 1000000, 0⟩ : Budget)) (by first | exact .here | exact .there (.here) | exact .there (.there (.here)) | exact .there (.there (.there (.here))) | exact .there (.there (.there (.there (.here)))) | exact .there (.there (.there (.there (.there (.here))))) | exact .there (.there (.there (.there (.there (.there (.here)))))) | exact .there (.there (.there (.there (.there (.there (.there (.here))))))) | exact .there (.there (.there (.there (.there (.there (.there (.there (.here)))))))) | exact .there (.there (.there (.there (.there (.there (.there (.there (.there (.here))))))))) | exact .there (.there (.there (.there (.there (.there (.there (.there (.there (.there (.here)))))))))) | exact .there (.there (.there (.there (.there (.there (.there (.there (.there (.there (.there (.here))))))))))) | exact .there (.there (.there (.there (.there (.there (.there (.there (.there (.there (.there (.there (.here))))))))))))) (Enc.size_eq _)) ?_)
  refine WL.op rfl (opW.moveI rfl ?_)
  refine WL.op rfl (opW.conv rfl (wrap_u64 (by omega)) ?_)
  refine WL.op rfl (opW.call (prio_ok _ (k : Int) (⟨b0.units % 1400001, b0.price % 1000000, 0⟩ : Budget) (by omega) ⟨by show b0.units % 1400001 < _; omega, by show b0.price % 1000000 < _; omega⟩ c (by omega)) rfl ?_)
  rintro _ w ⟨rfl, hw⟩; replace hS := hS.bel hw
  rw [← hn]
  refine WL.op rfl (opW.assignI rfl ?_)
  refine WL.nil ?_
  refine thenQ_n (hK5 _ _ ?_)
  refine WC.seq (fun K6 hK6 => ?_)
  refine WC.region ?_
  refine WL.op rfl (opW.moveI rfl ?_)
  refine WL.op rfl (opW.moveI rfl ?_)
  refine WL.op rfl (opW.mul rfl rfl (nmul (by omega)) ?_)
  refine WL.op rfl (opW.moveI rfl ?_)
  refine WL.op rfl (opW.boolT (by simp only [decide_eq_true_eq]; omega) (opW.leq rfl rfl ⟨rfl, rfl⟩) ?_)
  refine WL.op rfl (opW.moveB rfl ?_)
  refine WL.gT 40 rfl rfl rfl (WL.op rfl (opW.moveI rfl ?_))
  refine WL.gT 40 rfl rfl rfl (WL.op rfl (opW.add rfl rfl (nadd (b := 1) (by omega)) ?_))
  refine WL.gT 40 rfl rfl rfl (WL.op rfl (opW.moveI rfl ?_))
  refine WL.gT 40 rfl rfl rfl (WL.op rfl (opW.mul rfl rfl (nmul f5) ?_))
  refine WL.gT 40 rfl rfl rfl (WL.op rfl (opW.moveI rfl ?_))
  refine WL.gT 40 rfl rfl rfl (WL.op rfl (opW.boolT (by simp only [decide_eq_true_eq]; omega) (opW.gtr rfl rfl ⟨rfl, rfl⟩) ?_))
  refine WL.op rfl (opW.pickT rfl rfl ?_)
  refine WL.op rfl (opW.moveB rfl ?_)
  refine WL.gT 48 rfl rfl rfl (WL.op rfl (opW.moveI rfl ?_))
  refine WL.gT 48 rfl rfl rfl (WL.op rfl (opW.moveI rfl ?_))
  refine WL.gT 48 rfl rfl rfl (WL.op rfl (opW.boolT (by simp only [decide_eq_true_eq]; omega) (opW.leq rfl rfl ⟨rfl, rfl⟩) ?_))
  refine WL.op rfl (opW.pickT rfl rfl ?_)
  refine WL.op rfl (opW.moveB rfl ?_)
  refine WL.gT 53 rfl rfl rfl (WL.op rfl (opW.call (lives10 _) rfl ?_))
  rintro _ w ⟨rfl, hw⟩; replace hS := hS.bel hw
  refine WL.op rfl (opW.pickT rfl rfl ?_)
  refine WL.op rfl (opW.assignB rfl ?_)
  refine WL.nil ?_
  refine thenQ_n (hK6 _ _ ?_)
  refine WC.ret ?_
  refine bodyQ_ret (.tmpB rfl .nil) ?_
  exact ⟨rfl, hS.old⟩

end Go.Fer
