/- PrioritiesRise -/
import Derived.Test.YtahclnllhfodcaaC
set_option linter.all false
namespace Go.Fer
open Go Go.Proofs Go.RowKit

theorem tm_mono {a b d a' b' d' : Nat} {up : Bool} (ha : a ≤ a') (hb : b ≤ b') (hd : d' ≤ d) : tmF a b d up ≤ tmF a' b' d' up := by
  by_cases h0 : d' = 0
  · subst h0
    have e : tmF a' b' 0 up = 18446744073709551615 := by unfold tmF; rw [if_pos (Nat.zero_le _)]
    rw [e]
    have := tm_lt (a := a) (b := b) (d := d) (up := up)
    omega
  · have hx : a * b ≤ a' * b' := Nat.mul_le_mul ha hb
    cases up with
    | false =>
      rw [tm_down (by omega), tm_down h0]
      have h1 : a * b / d ≤ a' * b' / d' := Nat.div_le_div hx hd h0
      exact Nat.le_min.2 ⟨Nat.le_trans (Nat.min_le_left _ _) h1, Nat.min_le_right _ _⟩
    | true =>
      rw [tm_up (by omega), tm_up h0]
      have h1 : ceilD (a * b) d ≤ ceilD (a' * b') d' := by
        have e (x d : Nat) (h : d ≠ 0) : ceilD x d = if x = 0 then 0 else (x - 1) / d + 1 := by
          unfold ceilD
          by_cases hx : x = 0
          · rw [if_pos hx, hx, Nat.div_eq_of_lt (by omega)]
          · rw [if_neg hx, show x + d - 1 = (x - 1) + d by omega, Nat.add_div_right _ (by omega)]
        rw [e _ _ (by omega), e _ _ h0]
        by_cases hz : a * b = 0
        · rw [if_pos hz]; exact Nat.zero_le _
        · rw [if_neg hz, if_neg (by omega)]
          exact Nat.succ_le_succ (Nat.div_le_div (by omega) hd h0)
      exact Nat.le_min.2 ⟨Nat.le_trans (Nat.min_le_left _ _) h1, Nat.min_le_right _ _⟩
theorem sum2_mono {a b a' b' : Nat} (ha : a ≤ a') (hb : b ≤ b') : sumL [⟨a⟩, ⟨b⟩] ≤ sumL [⟨a'⟩, ⟨b'⟩] := by
  rw [sum2, sum2]
  exact Nat.le_min.2 ⟨Nat.le_trans (Nat.min_le_left _ _) (Nat.add_le_add ha hb), Nat.min_le_right _ _⟩
theorem base_mono {s t : Int} (h : s ≤ t) : baseF s ≤ baseF t := tm_mono (Int.toNat_le_toNat h) (Nat.le_refl _) (Nat.le_refl _)
theorem off_mono {b c : Budget} (h1 : b.price ≤ c.price) (h2 : b.units ≤ c.units) : offF b ≤ offF c := tm_mono h1 h2 (Nat.le_refl _)
theorem fee_mono {s t : Int} {b c : Budget} (h : s ≤ t) (h1 : b.price ≤ c.price) (h2 : b.units ≤ c.units) : feeF s b ≤ feeF t c := sum2_mono (base_mono h) (off_mono h1 h2)
theorem prio_mono {s t : Int} {b c : Budget} {x y : Nat} (h : s ≤ t) (h1 : b.price ≤ c.price) (h2 : b.units ≤ c.units) (hx : y ≤ x) : prioF s b x ≤ prioF t c y :=
  tm_mono (sum2_mono (Nat.div_le_div_right (base_mono h)) (off_mono h1 h2)) (Nat.le_refl _) (sum2_mono hx (Nat.le_refl _))
theorem maxN (a c : Nat) : (if (a : Int) < (c : Int) then (c : Int) else (a : Int)) = ((max a c : Nat) : Int) := by rw [Nat.max_def]; split <;> split <;> omega
theorem prio_top (s : Int) (b : Budget) : prioF s b 18446744073709551615 = prioF s b 18446744073709551614 := by
  unfold prioF
  have e : sumL [⟨18446744073709551615⟩, ⟨1⟩] = sumL [⟨18446744073709551614⟩, ⟨1⟩] := by decide
  rw [e]

set_option maxHeartbeats 1000000 in

theorem rise_law (w0 : World) (k : Nat) (hk : k ≤ 255) (b : Budget) (hb : OkB b) (m : Vector U64 4) (hm : ∀ i (hi : i < 4), m[i].n < 18446744073709551616) : Ret Try.prog 3 #[.int .u8 (k : Int), .agg (Enc.enc b), .agg (Enc.enc m)] w0 (fun r w' => r = .bool true ∧ Bel w0 w') := by
  refine Ret.enter (args := [.int .u8 (k : Int), .agg (Enc.enc b), .agg (Enc.enc m)]) Try.func3 rfl Try.ntmps3 Try.results3 rfl ?_
  have hS := St.start w0
  have hcok : OkB (⟨max b.units m[2].n, max b.price m[1].n, b.bad⟩ : Budget) := ⟨Nat.max_lt.2 ⟨hb.1, hm 2 (by decide)⟩, Nat.max_lt.2 ⟨hb.2, hm 1 (by decide)⟩⟩
  refine WC.seq (fun K1 hK1 => ?_)
  refine WC.region ?_
  refine WL.op rfl (opW.boxA hS rfl ?_)
  intro b4 w _ hS
  refine WL.op rfl (opW.boxA hS rfl ?_)
  intro b5 w _ hS
  refine WL.op rfl (opW.assignB rfl ?_)
  refine WL.nil ?_
  refine thenQ_n (hK1 _ _ ?_)
  refine WC.seq (fun K2 hK2 => ?_)
  refine WC.region ?_
  refine WL.op rfl (opW.moveI rfl ?_)
  refine WL.op rfl (opW.conv rfl (wrap_i64 (by omega)) ?_)
  refine WL.op rfl (opW.assignI rfl ?_)
  refine WL.nil ?_
  refine thenQ_n (hK2 _ _ ?_)
  refine WC.seq (fun K3 hK3 => ?_)
  refine WC.region ?_
  refine WL.op rfl (opW.idxArr rfl rfl (by omega) ?_)
  refine WL.op rfl (opW.loadV rfl (hS.ld1 (by first | exact .here | exact .there (.here) | exact .there (.there (.here)) | exact .there (.there (.there (.here))) | exact .there (.there (.there (.there (.here)))) | exact .there (.there (.there (.there (.there (.here))))) | exact .there (.there (.there (.there (.there (.there (.here)))))) | exact .there (.there (.there (.there (.there (.there (.there (.here))))))) | exact .there (.there (.there (.there (.there (.there (.there (.there (.here)))))))) | exact .there (.there (.there (.there (.there (.there (.there (.there (.there (.here))))))))) | exact .there (.there (.there (.there (.there (.there (.there (.there (.there (.there (.here)))))))))) | exact .there (.there (.there (.there (.there (.there (.there (.there (.there (.there (.there (.here))))))))))) | exact .there (.there (.there (.there (.there (.there (.there (.there (.there (.there (.there (.there (.here))))))))))))) (at_vec64 m 0 (by decide))) ?_)
  refine WL.op rfl (opW.assignI rfl ?_)
  refine WL.nil ?_
  refine thenQ_n (hK3 _ _ ?_)
  refine WC.seq (fun K4 hK4 => ?_)
  refine WC.region ?_
  refine WL.op rfl (opW.moveI rfl ?_)
  refine WL.op rfl (opW.loadV rfl (hS.ldA (cs := Enc.enc b) (by first | exact .here | exact .there (.here) | exact .there (.there (.here)) | exact .there (.there (.there (.here))) | exact .there (.there (.there (.there (.here)))) | exact .there (.there (.there (.there (.there (.here))))) | exact .there (.there (.there (.there (.there (.there (.here)))))) | exact .there (.there (.there (.there (.there (.there (.there (.here))))))) | exact .there (.there (.there (.there (.there (.there (.there (.there (.here)))))))) | exact .there (.there (.there (.there (.there (.there (.there (.there (.there (.here))))))))) | exact .there (.there (.there (.there (.there (.there (.there (.there (.there (.there (.here)))))))))) | exact .there (.there (.there (.there (.there (.there (.there (.there (.there (.there (.there (.here))))))))))) | exact .there (.there (.there (.there (.there (.there (.there (.there (.there (.there (.there (.there (.here))))))))))))) (Enc.size_eq _)) ?_)
  refine WL.op rfl (opW.moveI rfl ?_)
  refine WL.op rfl (opW.call (prio_ok _ (k : Int) b (by omega) hb m[0].n (hm 0 (by decide))) rfl ?_)
  rintro _ w ⟨rfl, hw⟩; replace hS := hS.bel hw
  refine WL.op rfl (opW.assignI rfl ?_)
  refine WL.nil ?_
  refine thenQ_n (hK4 _ _ ?_)
  refine WC.seq (fun K5 hK5 => ?_)
  refine WC.region ?_
  refine WL.op rfl (opW.loadV rfl (hS.ldA (cs := Enc.enc b) (by first | exact .here | exact .there (.here) | exact .there (.there (.here)) | exact .there (.there (.there (.here))) | exact .there (.there (.there (.there (.here)))) | exact .there (.there (.there (.there (.there (.here))))) | exact .there (.there (.there (.there (.there (.there (.here)))))) | exact .there (.there (.there (.there (.there (.there (.there (.here))))))) | exact .there (.there (.there (.there (.there (.there (.there (.there (.here)))))))) | exact .there (.there (.there (.there (.there (.there (.there (.there (.there (.here))))))))) | exact .there (.there (.there (.there (.there (.there (.there (.there (.there (.there (.here)))))))))) | exact .there (.there (.there (.there (.there (.there (.there (.there (.there (.there (.there (.here))))))))))) | exact .there (.there (.there (.there (.there (.there (.there (.there (.there (.there (.there (.there (.here))))))))))))) (Enc.size_eq _)) ?_)
  refine WL.op rfl (opW.allocA hS ?_)
  intro b10 w _ hS
  refine WL.op0 (opW.storeE hS rfl rfl (by first | exact .here | exact .there (.here) | exact .there (.there (.here)) | exact .there (.there (.there (.here))) | exact .there (.there (.there (.there (.here)))) | exact .there (.there (.there (.there (.there (.here))))) | exact .there (.there (.there (.there (.there (.there (.here)))))) | exact .there (.there (.there (.there (.there (.there (.there (.here))))))) | exact .there (.there (.there (.there (.there (.there (.there (.there (.here)))))))) | exact .there (.there (.there (.there (.there (.there (.there (.there (.there (.here))))))))) | exact .there (.there (.there (.there (.there (.there (.there (.there (.there (.there (.here)))))))))) | exact .there (.there (.there (.there (.there (.there (.there (.there (.there (.there (.there (.here))))))))))) | exact .there (.there (.there (.there (.there (.there (.there (.there (.there (.there (.there (.there (.here))))))))))))) (by first | rfl | exact Enc.size_eq _) ?_)
  intro w hS; replace hS := hS _ (by first | exact .here | exact .there (.here) | exact .there (.there (.here)) | exact .there (.there (.there (.here))) | exact .there (.there (.there (.there (.here)))) | exact .there (.there (.there (.there (.there (.here))))) | exact .there (.there (.there (.there (.there (.there (.here)))))) | exact .there (.there (.there (.there (.there (.there (.there (.here))))))) | exact .there (.there (.there (.there (.there (.there (.there (.there (.here)))))))) | exact .there (.there (.there (.there (.there (.there (.there (.there (.there (.here))))))))) | exact .there (.there (.there (.there (.there (.there (.there (.there (.there (.there (.here)))))))))) | exact .there (.there (.there (.there (.there (.there (.there (.there (.there (.there (.there (.here))))))))))) | exact .there (.there (.there (.there (.there (.there (.there (.there (.there (.there (.there (.there (.here)))))))))))))
  refine WL.nil ?_
  refine thenQ_n (hK5 _ _ ?_)
  refine WC.seq (fun K6 hK6 => ?_)
  refine WC.region ?_
  refine WL.op rfl (opW.fieldAddrB rfl ?_)
  refine WL.op rfl (opW.loadV rfl (hS.ld1 (by first | exact .here | exact .there (.here) | exact .there (.there (.here)) | exact .there (.there (.there (.here))) | exact .there (.there (.there (.there (.here)))) | exact .there (.there (.there (.there (.there (.here))))) | exact .there (.there (.there (.there (.there (.there (.here)))))) | exact .there (.there (.there (.there (.there (.there (.there (.here))))))) | exact .there (.there (.there (.there (.there (.there (.there (.there (.here)))))))) | exact .there (.there (.there (.there (.there (.there (.there (.there (.there (.here))))))))) | exact .there (.there (.there (.there (.there (.there (.there (.there (.there (.there (.here)))))))))) | exact .there (.there (.there (.there (.there (.there (.there (.there (.there (.there (.there (.here))))))))))) | exact .there (.there (.there (.there (.there (.there (.there (.there (.there (.there (.there (.there (.here))))))))))))) (Budget.at_price b)) ?_)
  refine WL.op rfl (opW.idxArr rfl rfl (by omega) ?_)
  refine WL.op rfl (opW.loadV rfl (hS.ld1 (by first | exact .here | exact .there (.here) | exact .there (.there (.here)) | exact .there (.there (.there (.here))) | exact .there (.there (.there (.there (.here)))) | exact .there (.there (.there (.there (.there (.here))))) | exact .there (.there (.there (.there (.there (.there (.here)))))) | exact .there (.there (.there (.there (.there (.there (.there (.here))))))) | exact .there (.there (.there (.there (.there (.there (.there (.there (.here)))))))) | exact .there (.there (.there (.there (.there (.there (.there (.there (.there (.here))))))))) | exact .there (.there (.there (.there (.there (.there (.there (.there (.there (.there (.here)))))))))) | exact .there (.there (.there (.there (.there (.there (.there (.there (.there (.there (.there (.here))))))))))) | exact .there (.there (.there (.there (.there (.there (.there (.there (.there (.there (.there (.there (.here))))))))))))) (at_vec64 m 1 (by decide))) ?_)
  refine WL.op rfl (opW.maxI rfl rfl (maxN (b.price) (m[1].n)) ?_)
  refine WL.op rfl (opW.fieldAddrB rfl ?_)
  refine WL.op0 (opW.storeF (v := .int .u64 ((max b.price m[1].n : Nat) : Int)) (sz := 1) (cs' := Enc.enc (⟨b.units, max b.price m[1].n, b.bad⟩ : Budget)) hS rfl rfl (by first | exact .here | exact .there (.here) | exact .there (.there (.here)) | exact .there (.there (.there (.here))) | exact .there (.there (.there (.there (.here)))) | exact .there (.there (.there (.there (.there (.here))))) | exact .there (.there (.there (.there (.there (.there (.here)))))) | exact .there (.there (.there (.there (.there (.there (.there (.here))))))) | exact .there (.there (.there (.there (.there (.there (.there (.there (.here)))))))) | exact .there (.there (.there (.there (.there (.there (.there (.there (.there (.here))))))))) | exact .there (.there (.there (.there (.there (.there (.there (.there (.there (.there (.here)))))))))) | exact .there (.there (.there (.there (.there (.there (.there (.there (.there (.there (.there (.here))))))))))) | exact .there (.there (.there (.there (.there (.there (.there (.there (.there (.there (.there (.there (.here))))))))))))) rfl (by rw [Enc.size_eq]; decide) (one_int _ _) (Budget.set_price b _) ?_)
  intro w hS; replace hS := hS _ (by first | exact .here | exact .there (.here) | exact .there (.there (.here)) | exact .there (.there (.there (.here))) | exact .there (.there (.there (.there (.here)))) | exact .there (.there (.there (.there (.there (.here))))) | exact .there (.there (.there (.there (.there (.there (.here)))))) | exact .there (.there (.there (.there (.there (.there (.there (.here))))))) | exact .there (.there (.there (.there (.there (.there (.there (.there (.here)))))))) | exact .there (.there (.there (.there (.there (.there (.there (.there (.there (.here))))))))) | exact .there (.there (.there (.there (.there (.there (.there (.there (.there (.there (.here)))))))))) | exact .there (.there (.there (.there (.there (.there (.there (.there (.there (.there (.there (.here))))))))))) | exact .there (.there (.there (.there (.there (.there (.there (.there (.there (.there (.there (.there (.here)))))))))))))
  refine WL.nil ?_
  refine thenQ_n (hK6 _ _ ?_)
  refine WC.seq (fun K7 hK7 => ?_)
  refine WC.region ?_
  refine WL.op rfl (opW.fieldAddrB rfl ?_)
  refine WL.op rfl (opW.loadV rfl (hS.ld1 (by first | exact .here | exact .there (.here) | exact .there (.there (.here)) | exact .there (.there (.there (.here))) | exact .there (.there (.there (.there (.here)))) | exact .there (.there (.there (.there (.there (.here))))) | exact .there (.there (.there (.there (.there (.there (.here)))))) | exact .there (.there (.there (.there (.there (.there (.there (.here))))))) | exact .there (.there (.there (.there (.there (.there (.there (.there (.here)))))))) | exact .there (.there (.there (.there (.there (.there (.there (.there (.there (.here))))))))) | exact .there (.there (.there (.there (.there (.there (.there (.there (.there (.there (.here)))))))))) | exact .there (.there (.there (.there (.there (.there (.there (.there (.there (.there (.there (.here))))))))))) | exact .there (.there (.there (.there (.there (.there (.there (.there (.there (.there (.there (.there (.here))))))))))))) (Budget.at_units b)) ?_)
  refine WL.op rfl (opW.idxArr rfl rfl (by omega) ?_)
  refine WL.op rfl (opW.loadV rfl (hS.ld1 (by first | exact .here | exact .there (.here) | exact .there (.there (.here)) | exact .there (.there (.there (.here))) | exact .there (.there (.there (.there (.here)))) | exact .there (.there (.there (.there (.there (.here))))) | exact .there (.there (.there (.there (.there (.there (.here)))))) | exact .there (.there (.there (.there (.there (.there (.there (.here))))))) | exact .there (.there (.there (.there (.there (.there (.there (.there (.here)))))))) | exact .there (.there (.there (.there (.there (.there (.there (.there (.there (.here))))))))) | exact .there (.there (.there (.there (.there (.there (.there (.there (.there (.there (.here)))))))))) | exact .there (.there (.there (.there (.there (.there (.there (.there (.there (.there (.there (.here))))))))))) | exact .there (.there (.there (.there (.there (.there (.there (.there (.there (.there (.there (.there (.here))))))))))))) (at_vec64 m 2 (by decide))) ?_)
  refine WL.op rfl (opW.maxI rfl rfl (maxN (b.units) (m[2].n)) ?_)
  refine WL.op rfl (opW.fieldAddrB rfl ?_)
  refine WL.op0 (opW.storeF (v := .int .u64 ((max b.units m[2].n : Nat) : Int)) (sz := 1) (cs' := Enc.enc (⟨max b.units m[2].n, max b.price m[1].n, b.bad⟩ : Budget)) hS rfl rfl (by first | exact .here | exact .there (.here) | exact .there (.there (.here)) | exact .there (.there (.there (.here))) | exact .there (.there (.there (.there (.here)))) | exact .there (.there (.there (.there (.there (.here))))) | exact .there (.there (.there (.there (.there (.there (.here)))))) | exact .there (.there (.there (.there (.there (.there (.there (.here))))))) | exact .there (.there (.there (.there (.there (.there (.there (.there (.here)))))))) | exact .there (.there (.there (.there (.there (.there (.there (.there (.there (.here))))))))) | exact .there (.there (.there (.there (.there (.there (.there (.there (.there (.there (.here)))))))))) | exact .there (.there (.there (.there (.there (.there (.there (.there (.there (.there (.there (.here))))))))))) | exact .there (.there (.there (.there (.there (.there (.there (.there (.there (.there (.there (.there (.here))))))))))))) rfl (by rw [Enc.size_eq]; decide) (one_int _ _) (Budget.set_units (⟨b.units, max b.price m[1].n, b.bad⟩ : Budget) _) ?_)
  intro w hS; replace hS := hS _ (by first | exact .here | exact .there (.here) | exact .there (.there (.here)) | exact .there (.there (.there (.here))) | exact .there (.there (.there (.there (.here)))) | exact .there (.there (.there (.there (.there (.here))))) | exact .there (.there (.there (.there (.there (.there (.here)))))) | exact .there (.there (.there (.there (.there (.there (.there (.here))))))) | exact .there (.there (.there (.there (.there (.there (.there (.there (.here)))))))) | exact .there (.there (.there (.there (.there (.there (.there (.there (.there (.here))))))))) | exact .there (.there (.there (.there (.there (.there (.there (.there (.there (.there (.here)))))))))) | exact .there (.there (.there (.there (.there (.there (.there (.there (.there (.there (.there (.here))))))))))) | exact .there (.there (.there (.there (.there (.there (.there (.there (.there (.there (.there (.there (.here)))))))))))))
  refine WL.nil ?_
  refine thenQ_n (hK7 _ _ ?_)
  refine WC.seq (fun K8 hK8 => ?_)
  refine WC.seq (fun K9 hK9 => ?_)
  refine WC.draw 34 (.look 0 (.look 1 (.look 3 (.look 4 (.one 2 (.one 5 (.look 6 (.look 7 (.look 8 (.look 9 (.look 10 (.look 12 (.one 11 (.look 13 (.look 14 (.look 15 (.look 16 (.look 17 (.look 18 (.look 20 (.look 21 (.one 19 (.one 22 (.look 23 (.look 24 (.look 25 (.look 26 (.look 27 (.look 28 (.look 29 (.look 31 (.one 30 (.look 32 (.look 33 .nil)))))))))))))))))))))))))))))))))) (by kernel_rfl) (fun _ _ _ h => h) (fun w1 hw1 => ?_)
  replace hS := hS.bel hw1
  have hS1 := hS
  have hT := St.start w1
  refine ML.look rfl rfl rfl (fun w hw => (by have hS := hS1.bel hw; exact opW.moveI rfl ⟨rfl, rfl⟩)) ?_
  refine ML.look rfl rfl rfl (fun w hw => (by have hS := hS1.bel hw; exact opW.loadV rfl (hS.ldA (cs := Enc.enc (⟨max b.units m[2].n, max b.price m[1].n, b.bad⟩ : Budget)) (by first | exact .here | exact .there (.here) | exact .there (.there (.here)) | exact .there (.there (.there (.here))) | exact .there (.there (.there (.there (.here)))) | exact .there (.there (.there (.there (.there (.here))))) | exact .there (.there (.there (.there (.there (.there (.here)))))) | exact .there (.there (.there (.there (.there (.there (.there (.here))))))) | exact .there (.there (.there (.there (.there (.there (.there (.there (.here)))))))) | exact .there (.there (.there (.there (.there (.there (.there (.there (.there (.here))))))))) | exact .there (.there (.there (.there (.there (.there (.there (.there (.there (.there (.here)))))))))) | exact .there (.there (.there (.there (.there (.there (.there (.there (.there (.there (.there (.here))))))))))) | exact .there (.there (.there (.there (.there (.there (.there (.there (.there (.there (.there (.there (.here))))))))))))) (Enc.size_eq _)) ⟨rfl, rfl⟩)) ?_
  refine ML.look rfl rfl rfl (fun w hw => (by have hS := hS1.bel hw; exact opW.moveI rfl ⟨rfl, rfl⟩)) ?_
  refine ML.look rfl rfl rfl (fun w hw => (by have hS := hS1.bel hw; exact opW.loadV rfl (hS.ldA (cs := Enc.enc b) (by first | exact .here | exact .there (.here) | exact .there (.there (.here)) | exact .there (.there (.there (.here))) | exact .there (.there (.there (.there (.here)))) | exact .there (.there (.there (.there (.there (.here))))) | exact .there (.there (.there (.there (.there (.there (.here)))))) | exact .there (.there (.there (.there (.there (.there (.there (.here))))))) | exact .there (.there (.there (.there (.there (.there (.there (.there (.here)))))))) | exact .there (.there (.there (.there (.there (.there (.there (.there (.there (.here))))))))) | exact .there (.there (.there (.there (.there (.there (.there (.there (.there (.there (.here)))))))))) | exact .there (.there (.there (.there (.there (.there (.there (.there (.there (.there (.there (.here))))))))))) | exact .there (.there (.there (.there (.there (.there (.there (.there (.there (.there (.there (.there (.here))))))))))))) (Enc.size_eq _)) ⟨rfl, rfl⟩)) ?_
  refine ML.one rfl rfl rfl (opW.call (fee_ok _ (k : Int) (⟨max b.units m[2].n, max b.price m[1].n, b.bad⟩ : Budget) (by omega) hcok) rfl ?_)
  rintro _ w ⟨rfl, hw⟩; replace hT := hT.bel hw
  refine ⟨hT.old, ?_⟩
  have hS := hS1.merge hT
  try simp only [List.cons_append, List.nil_append] at hS
  refine ML.one rfl rfl rfl (opW.call (fee_ok _ (k : Int) b (by omega) hb) rfl ?_)
  rintro _ w ⟨rfl, hw⟩; replace hT := hT.bel hw
  refine ⟨hT.old, ?_⟩
  have hS := hS1.merge hT
  try simp only [List.cons_append, List.nil_append] at hS
  refine ML.look rfl rfl rfl (fun w hw => (by have hS := hS1.bel hw; exact opW.boolF (decide_eq_false (by have := fee_mono (b := b) (c := (⟨max b.units m[2].n, max b.price m[1].n, b.bad⟩ : Budget)) (Int.le_refl (k : Int)) (Nat.le_max_left _ _) (Nat.le_max_left _ _); omega)) (opW.lss rfl rfl ⟨rfl, rfl⟩) ⟨rfl, rfl⟩)) ?_
  refine ML.look rfl rfl rfl (fun w hw => (by have hS := hS1.bel hw; exact opW.moveB rfl ⟨rfl, rfl⟩)) ?_
  refine ML.lookT 39 rfl rfl rfl rfl rfl rfl (fun w hw => (by have hS := hS1.bel hw; exact opW.moveI rfl ⟨rfl, rfl⟩)) ?_
  refine ML.lookT 39 rfl rfl rfl rfl rfl rfl (fun w hw => (by have hS := hS1.bel hw; exact opW.loadV rfl (hS.ldA (cs := Enc.enc (⟨max b.units m[2].n, max b.price m[1].n, b.bad⟩ : Budget)) (by first | exact .here | exact .there (.here) | exact .there (.there (.here)) | exact .there (.there (.there (.here))) | exact .there (.there (.there (.there (.here)))) | exact .there (.there (.there (.there (.there (.here))))) | exact .there (.there (.there (.there (.there (.there (.here)))))) | exact .there (.there (.there (.there (.there (.there (.there (.here))))))) | exact .there (.there (.there (.there (.there (.there (.there (.there (.here)))))))) | exact .there (.there (.there (.there (.there (.there (.there (.there (.there (.here))))))))) | exact .there (.there (.there (.there (.there (.there (.there (.there (.there (.there (.here)))))))))) | exact .there (.there (.there (.there (.there (.there (.there (.there (.there (.there (.there (.here))))))))))) | exact .there (.there (.there (.there (.there (.there (.there (.there (.there (.there (.there (.there (.here))))))))))))) (Enc.size_eq _)) ⟨rfl, rfl⟩)) ?_
  refine ML.lookT 39 rfl rfl rfl rfl rfl rfl (fun w hw => (by have hS := hS1.bel hw; exact opW.moveI rfl ⟨rfl, rfl⟩)) ?_
  refine ML.lookT 39 rfl rfl rfl rfl rfl rfl (fun w hw => (by have hS := hS1.bel hw; exact opW.moveI rfl ⟨rfl, rfl⟩)) ?_
  refine ML.oneT 39 rfl rfl rfl rfl rfl rfl (opW.call (prio_ok _ (k : Int) (⟨max b.units m[2].n, max b.price m[1].n, b.bad⟩ : Budget) (by omega) hcok m[0].n (hm 0 (by decide))) rfl ?_)
  rintro _ w ⟨rfl, hw⟩; replace hT := hT.bel hw
  refine ⟨hT.old, ?_⟩
  have hS := hS1.merge hT
  try simp only [List.cons_append, List.nil_append] at hS
  refine ML.lookT 39 rfl rfl rfl rfl rfl rfl (fun w hw => (by have hS := hS1.bel hw; exact opW.boolF (decide_eq_false (by have := prio_mono (x := m[0].n) (b := b) (c := (⟨max b.units m[2].n, max b.price m[1].n, b.bad⟩ : Budget)) (Int.le_refl (k : Int)) (Nat.le_max_left _ _) (Nat.le_max_left _ _) (Nat.le_refl _); omega)) (opW.lss rfl rfl ⟨rfl, rfl⟩) ⟨rfl, rfl⟩)) ?_
  refine ML.look rfl rfl rfl (fun w hw => (by have hS := hS1.bel hw; exact opW.pickT rfl rfl ⟨rfl, rfl⟩)) ?_
  refine ML.look rfl rfl rfl (fun w hw => (by have hS := hS1.bel hw; exact opW.moveB rfl ⟨rfl, rfl⟩)) ?_
  refine ML.lookT 47 rfl rfl rfl rfl rfl rfl (fun w hw => (by have hS := hS1.bel hw; exact opW.moveI rfl ⟨rfl, rfl⟩)) ?_
  refine ML.lookT 47 rfl rfl rfl rfl rfl rfl (fun w hw => (by have hS := hS1.bel hw; exact opW.add rfl rfl (show IntKind.i64.wrap _ = ((k : Int) + 1) from wrap_i64 (by omega)) ⟨rfl, rfl⟩)) ?_
  refine ML.lookT 47 rfl rfl rfl rfl rfl rfl (fun w hw => (by have hS := hS1.bel hw; exact opW.loadV rfl (hS.ldA (cs := Enc.enc b) (by first | exact .here | exact .there (.here) | exact .there (.there (.here)) | exact .there (.there (.there (.here))) | exact .there (.there (.there (.there (.here)))) | exact .there (.there (.there (.there (.there (.here))))) | exact .there (.there (.there (.there (.there (.there (.here)))))) | exact .there (.there (.there (.there (.there (.there (.there (.here))))))) | exact .there (.there (.there (.there (.there (.there (.there (.there (.here)))))))) | exact .there (.there (.there (.there (.there (.there (.there (.there (.there (.here))))))))) | exact .there (.there (.there (.there (.there (.there (.there (.there (.there (.there (.here)))))))))) | exact .there (.there (.there (.there (.there (.there (.there (.there (.there (.there (.there (.here))))))))))) | exact .there (.there (.there (.there (.there (.there (.there (.there (.there (.there (.there (.there (.here))))))))))))) (Enc.size_eq _)) ⟨rfl, rfl⟩)) ?_
  refine ML.lookT 47 rfl rfl rfl rfl rfl rfl (fun w hw => (by have hS := hS1.bel hw; exact opW.moveI rfl ⟨rfl, rfl⟩)) ?_
  refine ML.lookT 47 rfl rfl rfl rfl rfl rfl (fun w hw => (by have hS := hS1.bel hw; exact opW.loadV rfl (hS.ldA (cs := Enc.enc b) (by first | exact .here | exact .there (.here) | exact .there (.there (.here)) | exact .there (.there (.there (.here))) | exact .there (.there (.there (.there (.here)))) | exact .there (.there (.there (.there (.there (.here))))) | exact .there (.there (.there (.there (.there (.there (.here)))))) | exact .there (.there (.there (.there (.there (.there (.there (.here))))))) | exact .there (.there (.there (.there (.there (.there (.there (.there (.here)))))))) | exact .there (.there (.there (.there (.there (.there (.there (.there (.there (.here))))))))) | exact .there (.there (.there (.there (.there (.there (.there (.there (.there (.there (.here)))))))))) | exact .there (.there (.there (.there (.there (.there (.there (.there (.there (.there (.there (.here))))))))))) | exact .there (.there (.there (.there (.there (.there (.there (.there (.there (.there (.there (.there (.here))))))))))))) (Enc.size_eq _)) ⟨rfl, rfl⟩)) ?_
  refine ML.oneT 47 rfl rfl rfl rfl rfl rfl (opW.call (fee_ok _ ((k : Int) + 1) b (by omega) hb) rfl ?_)
  rintro _ w ⟨rfl, hw⟩; replace hT := hT.bel hw
  refine ⟨hT.old, ?_⟩
  have hS := hS1.merge hT
  try simp only [List.cons_append, List.nil_append] at hS
  refine ML.oneT 47 rfl rfl rfl rfl rfl rfl (opW.call (fee_ok _ (k : Int) b (by omega) hb) rfl ?_)
  rintro _ w ⟨rfl, hw⟩; replace hT := hT.bel hw
  refine ⟨hT.old, ?_⟩
  have hS := hS1.merge hT
  try simp only [List.cons_append, List.nil_append] at hS
  refine ML.lookT 47 rfl rfl rfl rfl rfl rfl (fun w hw => (by have hS := hS1.bel hw; exact opW.boolF (decide_eq_false (by have := fee_mono (b := b) (c := b) (show (k : Int) ≤ (k : Int) + 1 by omega) (Nat.le_refl _) (Nat.le_refl _); omega)) (opW.lss rfl rfl ⟨rfl, rfl⟩) ⟨rfl, rfl⟩)) ?_
  refine ML.look rfl rfl rfl (fun w hw => (by have hS := hS1.bel hw; exact opW.pickT rfl rfl ⟨rfl, rfl⟩)) ?_
  refine ML.look rfl rfl rfl (fun w hw => (by have hS := hS1.bel hw; exact opW.moveB rfl ⟨rfl, rfl⟩)) ?_
  refine ML.lookT 57 rfl rfl rfl rfl rfl rfl (fun w hw => (by have hS := hS1.bel hw; exact opW.moveI rfl ⟨rfl, rfl⟩)) ?_
  refine ML.lookT 57 rfl rfl rfl rfl rfl rfl (fun w hw => (by have hS := hS1.bel hw; exact opW.add rfl rfl (show IntKind.i64.wrap _ = ((k : Int) + 1) from wrap_i64 (by omega)) ⟨rfl, rfl⟩)) ?_
  refine ML.lookT 57 rfl rfl rfl rfl rfl rfl (fun w hw => (by have hS := hS1.bel hw; exact opW.loadV rfl (hS.ldA (cs := Enc.enc b) (by first | exact .here | exact .there (.here) | exact .there (.there (.here)) | exact .there (.there (.there (.here))) | exact .there (.there (.there (.there (.here)))) | exact .there (.there (.there (.there (.there (.here))))) | exact .there (.there (.there (.there (.there (.there (.here)))))) | exact .there (.there (.there (.there (.there (.there (.there (.here))))))) | exact .there (.there (.there (.there (.there (.there (.there (.there (.here)))))))) | exact .there (.there (.there (.there (.there (.there (.there (.there (.there (.here))))))))) | exact .there (.there (.there (.there (.there (.there (.there (.there (.there (.there (.here)))))))))) | exact .there (.there (.there (.there (.there (.there (.there (.there (.there (.there (.there (.here))))))))))) | exact .there (.there (.there (.there (.there (.there (.there (.there (.there (.there (.there (.there (.here))))))))))))) (Enc.size_eq _)) ⟨rfl, rfl⟩)) ?_
  refine ML.lookT 57 rfl rfl rfl rfl rfl rfl (fun w hw => (by have hS := hS1.bel hw; exact opW.moveI rfl ⟨rfl, rfl⟩)) ?_
  refine ML.lookT 57 rfl rfl rfl rfl rfl rfl (fun w hw => (by have hS := hS1.bel hw; exact opW.moveI rfl ⟨rfl, rfl⟩)) ?_
  refine ML.oneT 57 rfl rfl rfl rfl rfl rfl (opW.call (prio_ok _ ((k : Int) + 1) b (by omega) hb m[0].n (hm 0 (by decide))) rfl ?_)
  rintro _ w ⟨rfl, hw⟩; replace hT := hT.bel hw
  refine ⟨hT.old, ?_⟩
  have hS := hS1.merge hT
  try simp only [List.cons_append, List.nil_append] at hS
  refine ML.lookT 57 rfl rfl rfl rfl rfl rfl (fun w hw => (by have hS := hS1.bel hw; exact opW.boolF (decide_eq_false (by have := prio_mono (x := m[0].n) (b := b) (c := b) (show (k : Int) ≤ (k : Int) + 1 by omega) (Nat.le_refl _) (Nat.le_refl _) (Nat.le_refl _); omega)) (opW.lss rfl rfl ⟨rfl, rfl⟩) ⟨rfl, rfl⟩)) ?_
  refine ML.look rfl rfl rfl (fun w hw => (by have hS := hS1.bel hw; exact opW.pickT rfl rfl ⟨rfl, rfl⟩)) ?_
  refine ML.nil ?_
  refine thenQ_n (hK9 _ _ ?_)
  refine WC.cond _ rfl (fun hc0 => ?_) (fun hc0 => ?_)
  ·
    have hr0 := hc0
    try simp only [decide_eq_true_eq, decide_eq_false_iff_not, Bool.and_eq_true, Bool.or_eq_true, Bool.and_eq_false_iff, Bool.or_eq_false_iff, Bool.not_eq_true', Bool.not_eq_false', Int.not_lt, Int.not_le] at hc0
    simp at hr0
  ·
    have hr0 := hc0
    try simp only [decide_eq_true_eq, decide_eq_false_iff_not, Bool.and_eq_true, Bool.or_eq_true, Bool.and_eq_false_iff, Bool.or_eq_false_iff, Bool.not_eq_true', Bool.not_eq_false', Int.not_lt, Int.not_le] at hc0
    refine WC.skip ?_
    refine thenQ_n (hK8 _ _ ?_)
    refine WC.seq (fun K10 hK10 => ?_)
    refine WC.draw 22 (.look 0 (.look 1 (.look 2 (.look 3 (.look 4 (.look 5 (.look 7 (.one 6 (.look 8 (.look 9 (.look 10 (.look 11 (.look 13 (.look 14 (.one 12 (.one 15 (.look 16 (.look 17 (.look 18 (.one 19 (.look 20 (.look 21 .nil)))))))))))))))))))))) (by kernel_rfl) (fun _ _ _ h => h) (fun w1 hw1 => ?_)
    replace hS := hS.bel hw1
    have hS1 := hS
    have hT := St.start w1
    refine ML.look rfl rfl rfl (fun w hw => (by have hS := hS1.bel hw; exact opW.moveI rfl ⟨rfl, rfl⟩)) ?_
    refine ML.look rfl rfl rfl (fun w hw => (by have hS := hS1.bel hw; exact opW.loadV rfl (hS.ldA (cs := Enc.enc b) (by first | exact .here | exact .there (.here) | exact .there (.there (.here)) | exact .there (.there (.there (.here))) | exact .there (.there (.there (.there (.here)))) | exact .there (.there (.there (.there (.there (.here))))) | exact .there (.there (.there (.there (.there (.there (.here)))))) | exact .there (.there (.there (.there (.there (.there (.there (.here))))))) | exact .there (.there (.there (.there (.there (.there (.there (.there (.here)))))))) | exact .there (.there (.there (.there (.there (.there (.there (.there (.there (.here))))))))) | exact .there (.there (.there (.there (.there (.there (.there (.there (.there (.there (.here)))))))))) | exact .there (.there (.there (.there (.there (.there (.there (.there (.there (.there (.there (.here))))))))))) | exact .there (.there (.there (.there (.there (.there (.there (.there (.there (.there (.there (.there (.here))))))))))))) (Enc.size_eq _)) ⟨rfl, rfl⟩)) ?_
    refine ML.look rfl rfl rfl (fun w hw => (by have hS := hS1.bel hw; exact opW.moveI rfl ⟨rfl, rfl⟩)) ?_
    refine ML.look rfl rfl rfl (fun w hw => (by have hS := hS1.bel hw; exact opW.idxArr rfl rfl (by omega) ⟨rfl, rfl⟩)) ?_
    refine ML.look rfl rfl rfl (fun w hw => (by have hS := hS1.bel hw; exact opW.loadV rfl (hS.ld1 (by first | exact .here | exact .there (.here) | exact .there (.there (.here)) | exact .there (.there (.there (.here))) | exact .there (.there (.there (.there (.here)))) | exact .there (.there (.there (.there (.there (.here))))) | exact .there (.there (.there (.there (.there (.there (.here)))))) | exact .there (.there (.there (.there (.there (.there (.there (.here))))))) | exact .there (.there (.there (.there (.there (.there (.there (.there (.here)))))))) | exact .there (.there (.there (.there (.there (.there (.there (.there (.there (.here))))))))) | exact .there (.there (.there (.there (.there (.there (.there (.there (.there (.there (.here)))))))))) | exact .there (.there (.there (.there (.there (.there (.there (.there (.there (.there (.there (.here))))))))))) | exact .there (.there (.there (.there (.there (.there (.there (.there (.there (.there (.there (.there (.here))))))))))))) (at_vec64 m 3 (by decide))) ⟨rfl, rfl⟩)) ?_
    refine ML.look rfl rfl rfl (fun w hw => (by have hS := hS1.bel hw; exact opW.maxI rfl rfl (maxN (m[0].n) (m[3].n)) ⟨rfl, rfl⟩)) ?_
    refine ML.look rfl rfl rfl (fun w hw => (by have hS := hS1.bel hw; exact opW.moveI rfl ⟨rfl, rfl⟩)) ?_
    refine ML.one rfl rfl rfl (opW.call (prio_ok _ (k : Int) b (by omega) hb (max m[0].n m[3].n) (by have h0 := hm 0 (by decide); have h3 := hm 3 (by decide); exact Nat.max_lt.2 ⟨h0, h3⟩)) rfl ?_)
    rintro _ w ⟨rfl, hw⟩; replace hT := hT.bel hw
    refine ⟨hT.old, ?_⟩
    have hS := hS1.merge hT
    try simp only [List.cons_append, List.nil_append] at hS
    refine ML.look rfl rfl rfl (fun w hw => (by have hS := hS1.bel hw; exact opW.boolT (decide_eq_true (by have := prio_mono (x := max m[0].n m[3].n) (y := m[0].n) (b := b) (c := b) (Int.le_refl (k : Int)) (Nat.le_refl _) (Nat.le_refl _) (Nat.le_max_left _ _); omega)) (opW.leq rfl rfl ⟨rfl, rfl⟩) ⟨rfl, rfl⟩)) ?_
    refine ML.look rfl rfl rfl (fun w hw => (by have hS := hS1.bel hw; exact opW.moveB rfl ⟨rfl, rfl⟩)) ?_
    refine ML.lookT 75 rfl rfl rfl rfl rfl rfl (fun w hw => (by have hS := hS1.bel hw; exact opW.moveI rfl ⟨rfl, rfl⟩)) ?_
    refine ML.lookT 75 rfl rfl rfl rfl rfl rfl (fun w hw => (by have hS := hS1.bel hw; exact opW.loadV rfl (hS.ldA (cs := Enc.enc b) (by first | exact .here | exact .there (.here) | exact .there (.there (.here)) | exact .there (.there (.there (.here))) | exact .there (.there (.there (.there (.here)))) | exact .there (.there (.there (.there (.there (.here))))) | exact .there (.there (.there (.there (.there (.there (.here)))))) | exact .there (.there (.there (.there (.there (.there (.there (.here))))))) | exact .there (.there (.there (.there (.there (.there (.there (.there (.here)))))))) | exact .there (.there (.there (.there (.there (.there (.there (.there (.there (.here))))))))) | exact .there (.there (.there (.there (.there (.there (.there (.there (.there (.there (.here)))))))))) | exact .there (.there (.there (.there (.there (.there (.there (.there (.there (.there (.there (.here))))))))))) | exact .there (.there (.there (.there (.there (.there (.there (.there (.there (.there (.there (.there (.here))))))))))))) (Enc.size_eq _)) ⟨rfl, rfl⟩)) ?_
    refine ML.lookT 75 rfl rfl rfl rfl rfl rfl (fun w hw => (by have hS := hS1.bel hw; exact opW.moveI rfl ⟨rfl, rfl⟩)) ?_
    refine ML.lookT 75 rfl rfl rfl rfl rfl rfl (fun w hw => (by have hS := hS1.bel hw; exact opW.loadV rfl (hS.ldA (cs := Enc.enc b) (by first | exact .here | exact .there (.here) | exact .there (.there (.here)) | exact .there (.there (.there (.here))) | exact .there (.there (.there (.there (.here)))) | exact .there (.there (.there (.there (.there (.here))))) | exact .there (.there (.there (.there (.there (.there (.here)))))) | exact .there (.there (.there (.there (.there (.there (.there (.here))))))) | exact .there (.there (.there (.there (.there (.there (.there (.there (.here)))))))) | exact .there (.there (.there (.there (.there (.there (.there (.there (.there (.here))))))))) | exact .there (.there (.there (.there (.there (.there (.there (.there (.there (.there (.here)))))))))) | exact .there (.there (.there (.there (.there (.there (.there (.there (.there (.there (.there (.here))))))))))) | exact .there (.there (.there (.there (.there (.there (.there (.there (.there (.there (.there (.there (.here))))))))))))) (Enc.size_eq _)) ⟨rfl, rfl⟩)) ?_
    refine ML.oneT 75 rfl rfl rfl rfl rfl rfl (opW.call (prio_ok _ (k : Int) b (by omega) hb 18446744073709551615 (by decide)) rfl ?_)
    rintro _ w ⟨rfl, hw⟩; replace hT := hT.bel hw
    rw [prio_top]
    refine ⟨hT.old, ?_⟩
    have hS := hS1.merge hT
    try simp only [List.cons_append, List.nil_append] at hS
    refine ML.oneT 75 rfl rfl rfl rfl rfl rfl (opW.call (prio_ok _ (k : Int) b (by omega) hb 18446744073709551614 (by decide)) rfl ?_)
    rintro _ w ⟨rfl, hw⟩; replace hT := hT.bel hw
    refine ⟨hT.old, ?_⟩
    have hS := hS1.merge hT
    try simp only [List.cons_append, List.nil_append] at hS
    refine ML.lookT 75 rfl rfl rfl rfl rfl rfl (fun w hw => (by have hS := hS1.bel hw; exact opW.boolT (by simp) (opW.eql rfl rfl ⟨rfl, rfl⟩) ⟨rfl, rfl⟩)) ?_
    refine ML.look rfl rfl rfl (fun w hw => (by have hS := hS1.bel hw; exact opW.pickT rfl rfl ⟨rfl, rfl⟩)) ?_
    refine ML.look rfl rfl rfl (fun w hw => (by have hS := hS1.bel hw; exact opW.moveB rfl ⟨rfl, rfl⟩)) ?_
    refine ML.oneT 84 rfl rfl rfl rfl rfl rfl (opW.call (lives10 _) rfl ?_)
    rintro _ w ⟨rfl, hw⟩; replace hT := hT.bel hw
    refine ⟨hT.old, ?_⟩
    have hS := hS1.merge hT
    try simp only [List.cons_append, List.nil_append] at hS
    refine ML.look rfl rfl rfl (fun w hw => (by have hS := hS1.bel hw; exact opW.pickT rfl rfl ⟨rfl, rfl⟩)) ?_
    refine ML.look rfl rfl rfl (fun w hw => (by have hS := hS1.bel hw; exact opW.assignB rfl ⟨rfl, rfl⟩)) ?_
    refine ML.nil ?_
    refine thenQ_n (hK10 _ _ ?_)
    refine WC.ret ?_
    refine bodyQ_ret (.tmpB rfl .nil) ?_
    exact ⟨rfl, hS.old⟩

end Go.Fer
