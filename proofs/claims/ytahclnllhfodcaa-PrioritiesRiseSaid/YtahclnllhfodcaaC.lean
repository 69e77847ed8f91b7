/- priorities -/
import Derived.Test.YtahclnllhfodcaaR
set_option linter.all false
namespace Go.Fer
open Go Go.Proofs Go.RowKit

def ceilD (x d : Nat) : Nat := (x + d - 1) / d
theorem div_qr {q r d : Nat} (h : r < d) : (q * d + r) / d = q := by
  rw [Nat.mul_comm, Nat.mul_add_div (by omega), Nat.div_eq_of_lt h]; omega
theorem tm_down {a b d : Nat} (hd : d ≠ 0) : tmF a b d false = min (a * b / d) 18446744073709551615 := by
  unfold tmF
  by_cases h : d ≤ a * b / 18446744073709551616
  · rw [if_pos h]
    have : 18446744073709551616 ≤ a * b / d := by
      rw [Nat.le_div_iff_mul_le (by omega), Nat.mul_comm]
      exact Nat.le_trans (Nat.mul_le_mul_right _ h) (Nat.div_mul_le_self _ _)
    omega
  · rw [if_neg h, if_neg (by simp)]
    have := quoLt h
    omega
theorem tm_up {a b d : Nat} (hd : d ≠ 0) : tmF a b d true = min (ceilD (a * b) d) 18446744073709551615 := by
  have hD := Nat.div_add_mod' (a * b) d
  have hm := Nat.mod_lt (a * b) (show 0 < d by omega)
  have hc : ceilD (a * b) d = if 0 < a * b % d then a * b / d + 1 else a * b / d := by
    unfold ceilD
    by_cases h : 0 < a * b % d
    · rw [if_pos h]
      have e : a * b + d - 1 = (a * b / d + 1) * d + (a * b % d - 1) := by rw [Nat.add_mul]; omega
      rw [e]; exact div_qr (by omega)
    · rw [if_neg h]
      have e : a * b + d - 1 = a * b / d * d + (d - 1) := by omega
      rw [e]; exact div_qr (by omega)
  rw [hc]
  unfold tmF
  by_cases h : d ≤ a * b / 18446744073709551616
  · rw [if_pos h]
    have : 18446744073709551616 ≤ a * b / d := by
      rw [Nat.le_div_iff_mul_le (by omega), Nat.mul_comm]
      exact Nat.le_trans (Nat.mul_le_mul_right _ h) (Nat.div_mul_le_self _ _)
    split <;> omega
  · rw [if_neg h]
    have := quoLt h
    by_cases h2 : 0 < a * b % d
    · rw [if_pos h2, if_pos (by simpa using h2)]
      unfold sumH
      split <;> omega
    · rw [if_neg h2, if_neg (by simpa using h2)]
      omega
theorem tm_lt {a b d : Nat} {up : Bool} : tmF a b d up < 18446744073709551616 := by
  unfold tmF
  by_cases h : d ≤ a * b / 18446744073709551616
  · rw [if_pos h]; decide
  · rw [if_neg h]
    have := quoLt h
    split
    · exact sumH_lt _ _
    · omega
theorem ceil_mono {x y d : Nat} (h : x ≤ y) : ceilD x d ≤ ceilD y d := Nat.div_le_div_right (by omega)
theorem sum2 (a b : Nat) : sumL [⟨a⟩, ⟨b⟩] = min (a + b) 18446744073709551615 := by rw [sumL_min]; simp
/-- what is paid for signatures; the offer; the fee; the priority -/
def baseF (s : Int) : Nat := tmF s.toNat 5000 1 false
def offF (b : Budget) : Nat := tmF b.price b.units 1000000 true
def feeF (s : Int) (b : Budget) : Nat := sumL [⟨baseF s⟩, ⟨offF b⟩]
def prioF (s : Int) (b : Budget) (c : Nat) : Nat := tmF (sumL [⟨baseF s / 2⟩, ⟨offF b⟩]) 1000000 (sumL [⟨c⟩, ⟨1⟩]) false
def OkB (b : Budget) : Prop := b.units < 18446744073709551616 ∧ b.price < 18446744073709551616

theorem base_ok (w0 : World) (s : Int) (b : Budget) (hs : -9223372036854775808 ≤ s ∧ s ≤ 9223372036854775807) (hb : OkB b) : Ret Try.prog 14 #[.agg (Enc.enc (Payer.mk s b))] w0 (fun u w' => u = .int .u64 ((baseF s : Nat) : Int) ∧ Bel w0 w') := by
  refine Ret.enter (args := [.agg (Enc.enc (Payer.mk s b))]) Try.func14 rfl Try.ntmps14 Try.results14 rfl ?_
  have hS := St.start w0
  refine WC.seq (fun K1 hK1 => ?_)
  refine WC.region ?_
  refine WL.op rfl (opW.boxA hS rfl ?_)
  intro b1 w _ hS
  refine WL.op rfl (opW.assignI rfl ?_)
  refine WL.nil ?_
  refine thenQ_n (hK1 _ _ ?_)
  refine WC.seq (fun K2 hK2 => ?_)
  refine WC.region ?_
  refine WL.op rfl (opW.fieldAddrB rfl ?_)
  refine WL.op rfl (opW.loadV rfl (hS.ld1 (by first | exact .here | exact .there (.here) | exact .there (.there (.here)) | exact .there (.there (.there (.here))) | exact .there (.there (.there (.there (.here)))) | exact .there (.there (.there (.there (.there (.here))))) | exact .there (.there (.there (.there (.there (.there (.here)))))) | exact .there (.there (.there (.there (.there (.there (.there (.here))))))) | exact .there (.there (.there (.there (.there (.there (.there (.there (.here)))))))) | exact .there (.there (.there (.there (.there (.there (.there (.there (.there (.here))))))))) | exact .there (.there (.there (.there (.there (.there (.there (.there (.there (.there (.here)))))))))) | exact .there (.there (.there (.there (.there (.there (.there (.there (.there (.there (.there (.here))))))))))) | exact .there (.there (.there (.there (.there (.there (.there (.there (.there (.there (.there (.there (.here))))))))))))) (Payer.at_sigs _)) ?_)
  refine WL.op rfl (opW.maxI rfl rfl (show (if (0 : Int) < s then s else 0) = ((s.toNat : Nat) : Int) from by split <;> omega) ?_)
  refine WL.op rfl (opW.conv rfl (wrap_u64 (by omega)) ?_)
  refine WL.op rfl (opW.call (wtimes_ok _ s.toNat 5000 1 false (by omega) (by decide) (by decide)) rfl ?_)
  rintro _ w ⟨rfl, hw⟩; replace hS := hS.bel hw
  refine WL.op rfl (opW.assignI rfl ?_)
  refine WL.nil ?_
  refine thenQ_n (hK2 _ _ ?_)
  refine WC.ret ?_
  refine bodyQ_ret (.tmpI rfl .nil) ?_
  exact ⟨rfl, hS.old⟩

theorem kept_ok (w0 : World) (s : Int) (b : Budget) (hs : -9223372036854775808 ≤ s ∧ s ≤ 9223372036854775807) (hb : OkB b) : Ret Try.prog 11 #[.agg (Enc.enc (Payer.mk s b))] w0 (fun u w' => u = .int .u64 ((baseF s / 2 : Nat) : Int) ∧ Bel w0 w') := by
  refine Ret.enter (args := [.agg (Enc.enc (Payer.mk s b))]) Try.func11 rfl Try.ntmps11 Try.results11 rfl ?_
  have hS := St.start w0
  refine WC.seq (fun K1 hK1 => ?_)
  refine WC.region ?_
  refine WL.op rfl (opW.boxA hS rfl ?_)
  intro b1 w _ hS
  refine WL.op rfl (opW.assignI rfl ?_)
  refine WL.nil ?_
  refine thenQ_n (hK1 _ _ ?_)
  refine WC.seq (fun K2 hK2 => ?_)
  refine WC.region ?_
  refine WL.op rfl (opW.loadV rfl (hS.ldA (cs := Enc.enc (Payer.mk s b)) (by first | exact .here | exact .there (.here) | exact .there (.there (.here)) | exact .there (.there (.there (.here))) | exact .there (.there (.there (.there (.here)))) | exact .there (.there (.there (.there (.there (.here))))) | exact .there (.there (.there (.there (.there (.there (.here)))))) | exact .there (.there (.there (.there (.there (.there (.there (.here))))))) | exact .there (.there (.there (.there (.there (.there (.there (.there (.here)))))))) | exact .there (.there (.there (.there (.there (.there (.there (.there (.there (.here))))))))) | exact .there (.there (.there (.there (.there (.there (.there (.there (.there (.there (.here)))))))))) | exact .there (.there (.there (.there (.there (.there (.there (.there (.there (.there (.there (.here))))))))))) | exact .there (.there (.there (.there (.there (.there (.there (.there (.there (.there (.there (.there (.here))))))))))))) (Enc.size_eq _)) ?_)
  refine WL.op rfl (opW.call (base_ok _ s b hs hb) rfl ?_)
  rintro _ w ⟨rfl, hw⟩; replace hS := hS.bel hw
  refine WL.op rfl (opW.quo rfl rfl (by omega) (nquo (b := 2) (tm_lt (up := false))) ?_)
  refine WL.op rfl (opW.assignI rfl ?_)
  refine WL.nil ?_
  refine thenQ_n (hK2 _ _ ?_)
  refine WC.ret ?_
  refine bodyQ_ret (.tmpI rfl .nil) ?_
  exact ⟨rfl, hS.old⟩

theorem offer_ok (w0 : World) (s : Int) (b : Budget) (hs : -9223372036854775808 ≤ s ∧ s ≤ 9223372036854775807) (hb : OkB b) : Ret Try.prog 12 #[.agg (Enc.enc (Payer.mk s b))] w0 (fun u w' => u = .int .u64 ((offF b : Nat) : Int) ∧ Bel w0 w') := by
  refine Ret.enter (args := [.agg (Enc.enc (Payer.mk s b))]) Try.func12 rfl Try.ntmps12 Try.results12 rfl ?_
  have hS := St.start w0
  refine WC.seq (fun K1 hK1 => ?_)
  refine WC.region ?_
  refine WL.op rfl (opW.boxA hS rfl ?_)
  intro b1 w _ hS
  refine WL.op rfl (opW.assignI rfl ?_)
  refine WL.nil ?_
  refine thenQ_n (hK1 _ _ ?_)
  refine WC.seq (fun K2 hK2 => ?_)
  refine WC.region ?_
  refine WL.op rfl (opW.fieldAddrB rfl ?_)
  refine WL.op rfl (opW.fieldAddrB rfl ?_)
  refine WL.op rfl (opW.loadV rfl (hS.ld1 (by first | exact .here | exact .there (.here) | exact .there (.there (.here)) | exact .there (.there (.there (.here))) | exact .there (.there (.there (.there (.here)))) | exact .there (.there (.there (.there (.there (.here))))) | exact .there (.there (.there (.there (.there (.there (.here)))))) | exact .there (.there (.there (.there (.there (.there (.there (.here))))))) | exact .there (.there (.there (.there (.there (.there (.there (.there (.here)))))))) | exact .there (.there (.there (.there (.there (.there (.there (.there (.there (.here))))))))) | exact .there (.there (.there (.there (.there (.there (.there (.there (.there (.there (.here)))))))))) | exact .there (.there (.there (.there (.there (.there (.there (.there (.there (.there (.there (.here))))))))))) | exact .there (.there (.there (.there (.there (.there (.there (.there (.there (.there (.there (.there (.here))))))))))))) (Payer.at_b_price (Payer.mk s b))) ?_)
  refine WL.op rfl (opW.fieldAddrB rfl ?_)
  refine WL.op rfl (opW.fieldAddrB rfl ?_)
  refine WL.op rfl (opW.loadV rfl (hS.ld1 (by first | exact .here | exact .there (.here) | exact .there (.there (.here)) | exact .there (.there (.there (.here))) | exact .there (.there (.there (.there (.here)))) | exact .there (.there (.there (.there (.there (.here))))) | exact .there (.there (.there (.there (.there (.there (.here)))))) | exact .there (.there (.there (.there (.there (.there (.there (.here))))))) | exact .there (.there (.there (.there (.there (.there (.there (.there (.here)))))))) | exact .there (.there (.there (.there (.there (.there (.there (.there (.there (.here))))))))) | exact .there (.there (.there (.there (.there (.there (.there (.there (.there (.there (.here)))))))))) | exact .there (.there (.there (.there (.there (.there (.there (.there (.there (.there (.there (.here))))))))))) | exact .there (.there (.there (.there (.there (.there (.there (.there (.there (.there (.there (.there (.here))))))))))))) (Payer.at_b_units (Payer.mk s b))) ?_)
  refine WL.op rfl (opW.call (wtimes_ok _ b.price b.units 1000000 true hb.2 hb.1 (by decide)) rfl ?_)
  rintro _ w ⟨rfl, hw⟩; replace hS := hS.bel hw
  refine WL.op rfl (opW.assignI rfl ?_)
  refine WL.nil ?_
  refine thenQ_n (hK2 _ _ ?_)
  refine WC.ret ?_
  refine bodyQ_ret (.tmpI rfl .nil) ?_
  exact ⟨rfl, hS.old⟩

theorem both_ok (w0 : World) (fa fb : Value) (A B : Nat) (hA : A < 18446744073709551616) (hB : B < 18446744073709551616) (ha : ∀ w, FnV Try.prog fa [] w (fun u w' => u = .int .u64 ((A : Nat) : Int) ∧ Bel w w')) (hb : ∀ w, FnV Try.prog fb [] w (fun u w' => u = .int .u64 ((B : Nat) : Int) ∧ Bel w w')) : Ret Try.prog 10 #[fa, fb] w0 (fun u w' => u = .int .u64 ((sumL [⟨A⟩, ⟨B⟩] : Nat) : Int) ∧ Bel w0 w') := by
  refine Ret.enter (args := [fa, fb]) Try.func10 rfl Try.ntmps10 Try.results10 rfl ?_
  have hS := St.start w0
  refine WC.seq (fun K1 hK1 => ?_)
  refine WC.region ?_
  refine WL.op rfl (opW.assignI rfl ?_)
  refine WL.nil ?_
  refine thenQ_n (hK1 _ _ ?_)
  refine WC.seq (fun K2 hK2 => ?_)
  refine WC.region ?_
  refine WL.op rfl (opW.moveV (v := fa) rfl ?_)
  refine WL.op rfl (opW.callV rfl (ha _) rfl ?_)
  rintro _ w ⟨rfl, hw⟩; replace hS := hS.bel hw
  refine WL.op rfl (opW.moveV (v := fb) rfl ?_)
  refine WL.op rfl (opW.callV rfl (hb _) rfl ?_)
  rintro _ w ⟨rfl, hw⟩; replace hS := hS.bel hw
  refine WL.op rfl (opW.buildSl hS (([⟨A⟩, ⟨B⟩] : List U64)) [.int .u64 ((A : Nat) : Int), .int .u64 ((B : Nat) : Int)] rfl rfl rfl rfl (by decide) ?_)
  intro b9 w hw hS
  refine WL.op rfl (opW.call (wsum_ok _ _ [⟨A⟩, ⟨B⟩] (hS.sl (xs := ([⟨A⟩, ⟨B⟩] : List U64)) (by first | exact .here | exact .there (.here) | exact .there (.there (.here)) | exact .there (.there (.there (.here))) | exact .there (.there (.there (.there (.here)))) | exact .there (.there (.there (.there (.there (.here))))) | exact .there (.there (.there (.there (.there (.there (.here)))))) | exact .there (.there (.there (.there (.there (.there (.there (.here))))))) | exact .there (.there (.there (.there (.there (.there (.there (.there (.here)))))))) | exact .there (.there (.there (.there (.there (.there (.there (.there (.there (.here))))))))) | exact .there (.there (.there (.there (.there (.there (.there (.there (.there (.there (.here)))))))))) | exact .there (.there (.there (.there (.there (.there (.there (.there (.there (.there (.there (.here))))))))))) | exact .there (.there (.there (.there (.there (.there (.there (.there (.there (.there (.there (.there (.here)))))))))))))) (okl2 hA hB)) rfl ?_)
  rintro _ w ⟨rfl, hw⟩; replace hS := hS.bel hw
  refine WL.op rfl (opW.assignI rfl ?_)
  refine WL.nil ?_
  refine thenQ_n (hK2 _ _ ?_)
  refine WC.ret ?_
  refine bodyQ_ret (.tmpI rfl .nil) ?_
  exact ⟨rfl, hS.old⟩

theorem fee_ok (w0 : World) (s : Int) (b : Budget) (hs : -9223372036854775808 ≤ s ∧ s ≤ 9223372036854775807) (hb : OkB b) : Ret Try.prog 7 #[.int .i64 s, .agg (Enc.enc b)] w0 (fun u w' => u = .int .u64 ((feeF s b : Nat) : Int) ∧ Bel w0 w') := by
  refine Ret.enter (args := [.int .i64 s, .agg (Enc.enc b)]) Try.func7 rfl Try.ntmps7 Try.results7 rfl ?_
  have hS := St.start w0
  refine WC.seq (fun K1 hK1 => ?_)
  refine WC.region ?_
  refine WL.op rfl (opW.boxA hS rfl ?_)
  intro b3 w _ hS
  refine WL.op rfl (opW.assignI rfl ?_)
  refine WL.nil ?_
  refine thenQ_n (hK1 _ _ ?_)
  refine WC.seq (fun K2 hK2 => ?_)
  refine WC.region ?_
  refine WL.op rfl (opW.moveI rfl ?_)
  refine WL.op rfl (opW.loadV rfl (hS.ldA (cs := Enc.enc b) (by first | exact .here | exact .there (.here) | exact .there (.there (.here)) | exact .there (.there (.there (.here))) | exact .there (.there (.there (.there (.here)))) | exact .there (.there (.there (.there (.there (.here))))) | exact .there (.there (.there (.there (.there (.there (.here)))))) | exact .there (.there (.there (.there (.there (.there (.there (.here))))))) | exact .there (.there (.there (.there (.there (.there (.there (.there (.here)))))))) | exact .there (.there (.there (.there (.there (.there (.there (.there (.there (.here))))))))) | exact .there (.there (.there (.there (.there (.there (.there (.there (.there (.there (.here)))))))))) | exact .there (.there (.there (.there (.there (.there (.there (.there (.there (.there (.there (.here))))))))))) | exact .there (.there (.there (.there (.there (.there (.there (.there (.there (.there (.there (.there (.here))))))))))))) (Enc.size_eq _)) ?_)
  refine WL.op rfl (opW.buildE (r := ((Payer.mk s b) : Payer)) (ps := Payer.parts ((Payer.mk s b) : Payer)) (Payer.enc_eq _) (by first | rfl | (simp only [enc_vset, enc_vz, Budget.enc_eq, Budget.parts, Payer.enc_eq, Payer.parts]; rfl)) (by (repeat' (first | exact trivial | refine And.intro ?_ ?_)) <;> first | rfl | exact Enc.size_eq _ | (simp; done)) ?_)
  refine WL.op rfl (opW.allocA hS ?_)
  intro b5 w _ hS
  refine WL.op0 (opW.storeE hS rfl rfl (by first | exact .here | exact .there (.here) | exact .there (.there (.here)) | exact .there (.there (.there (.here))) | exact .there (.there (.there (.there (.here)))) | exact .there (.there (.there (.there (.there (.here))))) | exact .there (.there (.there (.there (.there (.there (.here)))))) | exact .there (.there (.there (.there (.there (.there (.there (.here))))))) | exact .there (.there (.there (.there (.there (.there (.there (.there (.here)))))))) | exact .there (.there (.there (.there (.there (.there (.there (.there (.there (.here))))))))) | exact .there (.there (.there (.there (.there (.there (.there (.there (.there (.there (.here)))))))))) | exact .there (.there (.there (.there (.there (.there (.there (.there (.there (.there (.there (.here))))))))))) | exact .there (.there (.there (.there (.there (.there (.there (.there (.there (.there (.there (.there (.here))))))))))))) (by first | rfl | exact Enc.size_eq _) ?_)
  intro w hS; replace hS := hS _ (by first | exact .here | exact .there (.here) | exact .there (.there (.here)) | exact .there (.there (.there (.here))) | exact .there (.there (.there (.there (.here)))) | exact .there (.there (.there (.there (.there (.here))))) | exact .there (.there (.there (.there (.there (.there (.here)))))) | exact .there (.there (.there (.there (.there (.there (.there (.here))))))) | exact .there (.there (.there (.there (.there (.there (.there (.there (.here)))))))) | exact .there (.there (.there (.there (.there (.there (.there (.there (.there (.here))))))))) | exact .there (.there (.there (.there (.there (.there (.there (.there (.there (.there (.here)))))))))) | exact .there (.there (.there (.there (.there (.there (.there (.there (.there (.there (.there (.here))))))))))) | exact .there (.there (.there (.there (.there (.there (.there (.there (.there (.there (.there (.there (.here)))))))))))))
  refine WL.nil ?_
  refine thenQ_n (hK2 _ _ ?_)
  refine WC.seq (fun K3 hK3 => ?_)
  refine WC.region ?_
  refine WL.op rfl (opW.loadV rfl (hS.ldA (cs := Enc.enc (Payer.mk s b)) (by first | exact .here | exact .there (.here) | exact .there (.there (.here)) | exact .there (.there (.there (.here))) | exact .there (.there (.there (.there (.here)))) | exact .there (.there (.there (.there (.there (.here))))) | exact .there (.there (.there (.there (.there (.there (.here)))))) | exact .there (.there (.there (.there (.there (.there (.there (.here))))))) | exact .there (.there (.there (.there (.there (.there (.there (.there (.here)))))))) | exact .there (.there (.there (.there (.there (.there (.there (.there (.there (.here))))))))) | exact .there (.there (.there (.there (.there (.there (.there (.there (.there (.there (.here)))))))))) | exact .there (.there (.there (.there (.there (.there (.there (.there (.there (.there (.there (.here))))))))))) | exact .there (.there (.there (.there (.there (.there (.there (.there (.there (.there (.there (.there (.here))))))))))))) (Enc.size_eq _)) ?_)
  refine WL.op rfl (opW.makeFn (vs := [.agg (Enc.enc (Payer.mk s b))]) (cs := []) rfl rfl ?_)
  refine WL.op rfl (opW.loadV rfl (hS.ldA (cs := Enc.enc (Payer.mk s b)) (by first | exact .here | exact .there (.here) | exact .there (.there (.here)) | exact .there (.there (.there (.here))) | exact .there (.there (.there (.there (.here)))) | exact .there (.there (.there (.there (.there (.here))))) | exact .there (.there (.there (.there (.there (.there (.here)))))) | exact .there (.there (.there (.there (.there (.there (.there (.here))))))) | exact .there (.there (.there (.there (.there (.there (.there (.there (.here)))))))) | exact .there (.there (.there (.there (.there (.there (.there (.there (.there (.here))))))))) | exact .there (.there (.there (.there (.there (.there (.there (.there (.there (.there (.here)))))))))) | exact .there (.there (.there (.there (.there (.there (.there (.there (.there (.there (.there (.here))))))))))) | exact .there (.there (.there (.there (.there (.there (.there (.there (.there (.there (.there (.there (.here))))))))))))) (Enc.size_eq _)) ?_)
  refine WL.op rfl (opW.makeFn (vs := [.agg (Enc.enc (Payer.mk s b))]) (cs := []) rfl rfl ?_)
  refine WL.op rfl (opW.call (both_ok _ _ _ (baseF s) (offF b) (tm_lt (up := false)) (tm_lt (up := true)) (fun w => ⟨_, [.agg (Enc.enc (Payer.mk s b))], [], rfl, inferInstance, base_ok w s b hs hb⟩) (fun w => ⟨_, [.agg (Enc.enc (Payer.mk s b))], [], rfl, inferInstance, offer_ok w s b hs hb⟩)) rfl ?_)
  rintro _ w ⟨rfl, hw⟩; replace hS := hS.bel hw
  refine WL.op rfl (opW.assignI rfl ?_)
  refine WL.nil ?_
  refine thenQ_n (hK3 _ _ ?_)
  refine WC.ret ?_
  refine bodyQ_ret (.tmpI rfl .nil) ?_
  exact ⟨rfl, hS.old⟩

theorem prio_ok (w0 : World) (s : Int) (b : Budget) (hs : -9223372036854775808 ≤ s ∧ s ≤ 9223372036854775807) (hb : OkB b) (c : Nat) (hc : c < 18446744073709551616) : Ret Try.prog 6 #[.int .i64 s, .agg (Enc.enc b), .int .u64 ((c : Nat) : Int)] w0 (fun u w' => u = .int .u64 ((prioF s b c : Nat) : Int) ∧ Bel w0 w') := by
  refine Ret.enter (args := [.int .i64 s, .agg (Enc.enc b), .int .u64 ((c : Nat) : Int)]) Try.func6 rfl Try.ntmps6 Try.results6 rfl ?_
  have hS := St.start w0
  refine WC.seq (fun K1 hK1 => ?_)
  refine WC.region ?_
  refine WL.op rfl (opW.boxA hS rfl ?_)
  intro b4 w _ hS
  refine WL.op rfl (opW.assignI rfl ?_)
  refine WL.nil ?_
  refine thenQ_n (hK1 _ _ ?_)
  refine WC.seq (fun K2 hK2 => ?_)
  refine WC.region ?_
  refine WL.op rfl (opW.moveI rfl ?_)
  refine WL.op rfl (opW.loadV rfl (hS.ldA (cs := Enc.enc b) (by first | exact .here | exact .there (.here) | exact .there (.there (.here)) | exact .there (.there (.there (.here))) | exact .there (.there (.there (.there (.here)))) | exact .there (.there (.there (.there (.there (.here))))) | exact .there (.there (.there (.there (.there (.there (.here)))))) | exact .there (.there (.there (.there (.there (.there (.there (.here))))))) | exact .there (.there (.there (.there (.there (.there (.there (.there (.here)))))))) | exact .there (.there (.there (.there (.there (.there (.there (.there (.there (.here))))))))) | exact .there (.there (.there (.there (.there (.there (.there (.there (.there (.there (.here)))))))))) | exact .there (.there (.there (.there (.there (.there (.there (.there (.there (.there (.there (.here))))))))))) | exact .there (.there (.there (.there (.there (.there (.there (.there (.there (.there (.there (.there (.here))))))))))))) (Enc.size_eq _)) ?_)
  refine WL.op rfl (opW.buildE (r := ((Payer.mk s b) : Payer)) (ps := Payer.parts ((Payer.mk s b) : Payer)) (Payer.enc_eq _) (by first | rfl | (simp only [enc_vset, enc_vz, Budget.enc_eq, Budget.parts, Payer.enc_eq, Payer.parts]; rfl)) (by (repeat' (first | exact trivial | refine And.intro ?_ ?_)) <;> first | rfl | exact Enc.size_eq _ | (simp; done)) ?_)
  refine WL.op rfl (opW.allocA hS ?_)
  intro b7 w _ hS
  refine WL.op0 (opW.storeE hS rfl rfl (by first | exact .here | exact .there (.here) | exact .there (.there (.here)) | exact .there (.there (.there (.here))) | exact .there (.there (.there (.there (.here)))) | exact .there (.there (.there (.there (.there (.here))))) | exact .there (.there (.there (.there (.there (.there (.here)))))) | exact .there (.there (.there (.there (.there (.there (.there (.here))))))) | exact .there (.there (.there (.there (.there (.there (.there (.there (.here)))))))) | exact .there (.there (.there (.there (.there (.there (.there (.there (.there (.here))))))))) | exact .there (.there (.there (.there (.there (.there (.there (.there (.there (.there (.here)))))))))) | exact .there (.there (.there (.there (.there (.there (.there (.there (.there (.there (.there (.here))))))))))) | exact .there (.there (.there (.there (.there (.there (.there (.there (.there (.there (.there (.there (.here))))))))))))) (by first | rfl | exact Enc.size_eq _) ?_)
  intro w hS; replace hS := hS _ (by first | exact .here | exact .there (.here) | exact .there (.there (.here)) | exact .there (.there (.there (.here))) | exact .there (.there (.there (.there (.here)))) | exact .there (.there (.there (.there (.there (.here))))) | exact .there (.there (.there (.there (.there (.there (.here)))))) | exact .there (.there (.there (.there (.there (.there (.there (.here))))))) | exact .there (.there (.there (.there (.there (.there (.there (.there (.here)))))))) | exact .there (.there (.there (.there (.there (.there (.there (.there (.there (.here))))))))) | exact .there (.there (.there (.there (.there (.there (.there (.there (.there (.there (.here)))))))))) | exact .there (.there (.there (.there (.there (.there (.there (.there (.there (.there (.there (.here))))))))))) | exact .there (.there (.there (.there (.there (.there (.there (.there (.there (.there (.there (.there (.here)))))))))))))
  refine WL.nil ?_
  refine thenQ_n (hK2 _ _ ?_)
  refine WC.seq (fun K3 hK3 => ?_)
  refine WC.region ?_
  refine WL.op rfl (opW.loadV rfl (hS.ldA (cs := Enc.enc (Payer.mk s b)) (by first | exact .here | exact .there (.here) | exact .there (.there (.here)) | exact .there (.there (.there (.here))) | exact .there (.there (.there (.there (.here)))) | exact .there (.there (.there (.there (.there (.here))))) | exact .there (.there (.there (.there (.there (.there (.here)))))) | exact .there (.there (.there (.there (.there (.there (.there (.here))))))) | exact .there (.there (.there (.there (.there (.there (.there (.there (.here)))))))) | exact .there (.there (.there (.there (.there (.there (.there (.there (.there (.here))))))))) | exact .there (.there (.there (.there (.there (.there (.there (.there (.there (.there (.here)))))))))) | exact .there (.there (.there (.there (.there (.there (.there (.there (.there (.there (.there (.here))))))))))) | exact .there (.there (.there (.there (.there (.there (.there (.there (.there (.there (.there (.there (.here))))))))))))) (Enc.size_eq _)) ?_)
  refine WL.op rfl (opW.makeFn (vs := [.agg (Enc.enc (Payer.mk s b))]) (cs := []) rfl rfl ?_)
  refine WL.op rfl (opW.loadV rfl (hS.ldA (cs := Enc.enc (Payer.mk s b)) (by first | exact .here | exact .there (.here) | exact .there (.there (.here)) | exact .there (.there (.there (.here))) | exact .there (.there (.there (.there (.here)))) | exact .there (.there (.there (.there (.there (.here))))) | exact .there (.there (.there (.there (.there (.there (.here)))))) | exact .there (.there (.there (.there (.there (.there (.there (.here))))))) | exact .there (.there (.there (.there (.there (.there (.there (.there (.here)))))))) | exact .there (.there (.there (.there (.there (.there (.there (.there (.there (.here))))))))) | exact .there (.there (.there (.there (.there (.there (.there (.there (.there (.there (.here)))))))))) | exact .there (.there (.there (.there (.there (.there (.there (.there (.there (.there (.there (.here))))))))))) | exact .there (.there (.there (.there (.there (.there (.there (.there (.there (.there (.there (.there (.here))))))))))))) (Enc.size_eq _)) ?_)
  refine WL.op rfl (opW.makeFn (vs := [.agg (Enc.enc (Payer.mk s b))]) (cs := []) rfl rfl ?_)
  refine WL.op rfl (opW.call (both_ok _ _ _ (baseF s / 2) (offF b) (Nat.lt_of_le_of_lt (Nat.div_le_self _ _) (tm_lt (up := false))) (tm_lt (up := true)) (fun w => ⟨_, [.agg (Enc.enc (Payer.mk s b))], [], rfl, inferInstance, kept_ok w s b hs hb⟩) (fun w => ⟨_, [.agg (Enc.enc (Payer.mk s b))], [], rfl, inferInstance, offer_ok w s b hs hb⟩)) rfl ?_)
  rintro _ w ⟨rfl, hw⟩; replace hS := hS.bel hw
  refine WL.op rfl (opW.moveI rfl ?_)
  refine WL.op rfl (opW.buildSl hS (([⟨c⟩, ⟨1⟩] : List U64)) [.int .u64 ((c : Nat) : Int), .int .u64 1] rfl rfl rfl rfl (by decide) ?_)
  intro b17 w hw hS
  refine WL.op rfl (opW.call (wsum_ok _ _ [⟨c⟩, ⟨1⟩] (hS.sl (xs := ([⟨c⟩, ⟨1⟩] : List U64)) (by first | exact .here | exact .there (.here) | exact .there (.there (.here)) | exact .there (.there (.there (.here))) | exact .there (.there (.there (.there (.here)))) | exact .there (.there (.there (.there (.there (.here))))) | exact .there (.there (.there (.there (.there (.there (.here)))))) | exact .there (.there (.there (.there (.there (.there (.there (.here))))))) | exact .there (.there (.there (.there (.there (.there (.there (.there (.here)))))))) | exact .there (.there (.there (.there (.there (.there (.there (.there (.there (.here))))))))) | exact .there (.there (.there (.there (.there (.there (.there (.there (.there (.there (.here)))))))))) | exact .there (.there (.there (.there (.there (.there (.there (.there (.there (.there (.there (.here))))))))))) | exact .there (.there (.there (.there (.there (.there (.there (.there (.there (.there (.there (.there (.here)))))))))))))) (okl2 hc (by decide))) rfl ?_)
  rintro _ w ⟨rfl, hw⟩; replace hS := hS.bel hw
  refine WL.op rfl (opW.call (wtimes_ok _ (sumL [⟨baseF s / 2⟩, ⟨offF b⟩]) 1000000 (sumL [⟨c⟩, ⟨1⟩]) false (sumL_lt _) (by decide) (sumL_lt _)) rfl ?_)
  rintro _ w ⟨rfl, hw⟩; replace hS := hS.bel hw
  refine WL.op rfl (opW.assignI rfl ?_)
  refine WL.nil ?_
  refine thenQ_n (hK3 _ _ ?_)
  refine WC.ret ?_
  refine bodyQ_ret (.tmpI rfl .nil) ?_
  exact ⟨rfl, hS.old⟩

theorem lives10 (w0 : World) : Ret Try.prog 8 #[] w0 (fun r w' => r = .bool true ∧ Bel w0 w') := by
  refine Ret.enter (args := []) Try.func8 rfl Try.ntmps8 Try.results8 rfl ?_
  have hS := St.start w0
  refine WC.seq (fun K1 hK1 => ?_)
  refine WC.region ?_
  refine WL.op rfl (opW.assignB rfl ?_)
  refine WL.nil ?_
  refine thenQ_n (hK1 _ _ ?_)
  refine WC.seq (fun K2 hK2 => ?_)
  refine WC.region ?_
  refine WL.op rfl (opW.buildE (r := ((⟨1000, 1000000, 0⟩ : Budget) : Budget)) (ps := Budget.parts ((⟨1000, 1000000, 0⟩ : Budget) : Budget)) (Budget.enc_eq _) (by first | rfl | (simp only [enc_vset, enc_vz, Budget.enc_eq, Budget.parts, Payer.enc_eq, Payer.parts]; rfl)) (by (repeat' (first | exact trivial | refine And.intro ?_ ?_)) <;> first | rfl | exact Enc.size_eq _ | (simp; done)) ?_)
  refine WL.op rfl (opW.allocA hS ?_)
  intro b1 w _ hS
  refine WL.op0 (opW.storeE hS rfl rfl (by first | exact .here | exact .there (.here) | exact .there (.there (.here)) | exact .there (.there (.there (.here))) | exact .there (.there (.there (.there (.here)))) | exact .there (.there (.there (.there (.there (.here))))) | exact .there (.there (.there (.there (.there (.there (.here)))))) | exact .there (.there (.there (.there (.there (.there (.there (.here))))))) | exact .there (.there (.there (.there (.there (.there (.there (.there (.here)))))))) | exact .there (.there (.there (.there (.there (.there (.there (.there (.there (.here))))))))) | exact .there (.there (.there (.there (.there (.there (.there (.there (.there (.there (.here)))))))))) | exact .there (.there (.there (.there (.there (.there (.there (.there (.there (.there (.there (.here))))))))))) | exact .there (.there (.there (.there (.there (.there (.there (.there (.there (.there (.there (.there (.here))))))))))))) (by first | rfl | exact Enc.size_eq _) ?_)
  intro w hS; replace hS := hS _ (by first | exact .here | exact .there (.here) | exact .there (.there (.here)) | exact .there (.there (.there (.here))) | exact .there (.there (.there (.there (.here)))) | exact .there (.there (.there (.there (.there (.here))))) | exact .there (.there (.there (.there (.there (.there (.here)))))) | exact .there (.there (.there (.there (.there (.there (.there (.here))))))) | exact .there (.there (.there (.there (.there (.there (.there (.there (.here)))))))) | exact .there (.there (.there (.there (.there (.there (.there (.there (.there (.here))))))))) | exact .there (.there (.there (.there (.there (.there (.there (.there (.there (.there (.here)))))))))) | exact .there (.there (.there (.there (.there (.there (.there (.there (.there (.there (.there (.here))))))))))) | exact .there (.there (.there (.there (.there (.there (.there (.there (.there (.there (.there (.there (.here)))))))))))))
  refine WL.nil ?_
  refine thenQ_n (hK2 _ _ ?_)
  refine WC.seq (fun K3 hK3 => ?_)
  refine WC.region ?_
  refine WL.op rfl (opW.loadV rfl (hS.ldA (cs := Enc.enc (⟨1000, 1000000, 0⟩ : Budget)) (by first | exact .here | exact .there (.here) | exact .there (.there (.here)) | exact .there (.there (.there (.here))) | exact .there (.there (.there (.there (.here)))) | exact .there (.there (.there (.there (.there (.here))))) | exact .there (.there (.there (.there (.there (.there (.here)))))) | exact .there (.there (.there (.there (.there (.there (.there (.here))))))) | exact .there (.there (.there (.there (.there (.there (.there (.there (.here)))))))) | exact .there (.there (.there (.there (.there (.there (.there (.there (.there (.here))))))))) | exact .there (.there (.there (.there (.there (.there (.there (.there (.there (.there (.here)))))))))) | exact .there (.there (.there (.there (.there (.there (.there (.there (.there (.there (.there (.here))))))))))) | exact .there (.there (.there (.there (.there (.there (.there (.there (.there (.there (.there (.there (.here))))))))))))) (Enc.size_eq _)) ?_)
  refine WL.op rfl (opW.call (fee_ok _ 1 (⟨1000, 1000000, 0⟩ : Budget) (by decide) (by constructor <;> decide)) rfl ?_)
  rintro _ w ⟨rfl, hw⟩; replace hS := hS.bel hw
  refine WL.op rfl (opW.boolT (by decide) (opW.eql rfl rfl ⟨rfl, rfl⟩) ?_)
  refine WL.op rfl (opW.moveB rfl ?_)
  refine WL.gT 6 rfl rfl rfl (WL.op rfl (opW.loadV rfl (hS.ldA (cs := Enc.enc (⟨1000, 1000000, 0⟩ : Budget)) (by first | exact .here | exact .there (.here) | exact .there (.there (.here)) | exact .there (.there (.there (.here))) | exact .there (.there (.there (.there (.here)))) | exact .there (.there (.there (.there (.there (.here))))) | exact .there (.there (.there (.there (.there (.there (.here)))))) | exact .there (.there (.there (.there (.there (.there (.there (.here))))))) | exact .there (.there (.there (.there (.there (.there (.there (.there (.here)))))))) | exact .there (.there (.there (.there (.there (.there (.there (.there (.there (.here))))))))) | exact .there (.there (.there (.there (.there (.there (.there (.there (.there (.there (.here)))))))))) | exact .there (.there (.there (.there (.there (.there (.there (.there (.there (.there (.there (.here))))))))))) | exact .there (.there (.there (.there (.there (.there (.there (.there (.there (.there (.there (.there (.here))))))))))))) (Enc.size_eq _)) ?_))
  refine WL.gT 6 rfl rfl rfl (WL.op rfl (opW.call (prio_ok _ 1 (⟨1000, 1000000, 0⟩ : Budget) (by decide) (by constructor <;> decide) 999 (by decide)) rfl ?_))
  rintro _ w ⟨rfl, hw⟩; replace hS := hS.bel hw
  refine WL.gT 6 rfl rfl rfl (WL.op rfl (opW.boolT (by decide) (opW.eql rfl rfl ⟨rfl, rfl⟩) ?_))
  refine WL.op rfl (opW.pickT rfl rfl ?_)
  refine WL.op rfl (opW.moveB rfl ?_)
  refine WL.gT 11 rfl rfl rfl (WL.op rfl (opW.buildE (r := ((⟨0, 0, 0⟩ : Budget) : Budget)) (ps := Budget.parts ((⟨0, 0, 0⟩ : Budget) : Budget)) (Budget.enc_eq _) (by first | rfl | (simp only [enc_vset, enc_vz, Budget.enc_eq, Budget.parts, Payer.enc_eq, Payer.parts]; rfl)) (by (repeat' (first | exact trivial | refine And.intro ?_ ?_)) <;> first | rfl | exact Enc.size_eq _ | (simp; done)) ?_))
  refine WL.gT 11 rfl rfl rfl (WL.op rfl (opW.call (fee_ok _ (-3) (⟨0, 0, 0⟩ : Budget) (by decide) (by constructor <;> decide)) rfl ?_))
  rintro _ w ⟨rfl, hw⟩; replace hS := hS.bel hw
  refine WL.gT 11 rfl rfl rfl (WL.op rfl (opW.boolT (by decide) (opW.eql rfl rfl ⟨rfl, rfl⟩) ?_))
  refine WL.op rfl (opW.pickT rfl rfl ?_)
  refine WL.op rfl (opW.moveB rfl ?_)
  refine WL.gT 16 rfl rfl rfl (WL.op rfl (opW.buildE (r := ((⟨18446744073709551615, 18446744073709551615, 0⟩ : Budget) : Budget)) (ps := Budget.parts ((⟨18446744073709551615, 18446744073709551615, 0⟩ : Budget) : Budget)) (Budget.enc_eq _) (by first | rfl | (simp only [enc_vset, enc_vz, Budget.enc_eq, Budget.parts, Payer.enc_eq, Payer.parts]; rfl)) (by (repeat' (first | exact trivial | refine And.intro ?_ ?_)) <;> first | rfl | exact Enc.size_eq _ | (simp; done)) ?_))
  refine WL.gT 16 rfl rfl rfl (WL.op rfl (opW.call (prio_ok _ 0 (⟨18446744073709551615, 18446744073709551615, 0⟩ : Budget) (by decide) (by constructor <;> decide) 18446744073709551615 (by decide)) rfl ?_))
  rintro _ w ⟨rfl, hw⟩; replace hS := hS.bel hw
  refine WL.gT 16 rfl rfl rfl (WL.op rfl (opW.boolT (by decide) (opW.eql rfl rfl ⟨rfl, rfl⟩) ?_))
  refine WL.op rfl (opW.pickT rfl rfl ?_)
  refine WL.op rfl (opW.assignB rfl ?_)
  refine WL.nil ?_
  refine thenQ_n (hK3 _ _ ?_)
  refine WC.ret ?_
  refine bodyQ_ret (.tmpB rfl .nil) ?_
  exact ⟨rfl, hS.old⟩

end Go.Fer
