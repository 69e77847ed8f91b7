/- twins -/
import Derived.Test.YtiknpbndjnfjhaaR
import Derived.Test.YtiknpbndjnfjhaaD
set_option linter.all false
namespace Go.Fer
open Go Go.Proofs Go.RowKit

theorem twin_set1 {α : Type} {xs : List α} {z : α} {k : Nat} (hk : k < xs.length) : (xs.take k ++ List.replicate (xs.length + 3 - k) z).set k xs[k] = xs.take (k + 1) ++ List.replicate (xs.length + 3 - (k + 1)) z := by
  have hl : (xs.take k).length = k := by simp; omega
  rw [List.set_append_right _ _ (by omega), hl, Nat.sub_self, show xs.length + 3 - k = (xs.length + 3 - (k + 1)) + 1 by omega, List.replicate_succ, List.set_cons_zero, List.take_succ_eq_append_getElem hk, List.append_assoc]
  rfl
theorem twin_mid {α : Type} {xs : List α} {z : α} : xs.take xs.length ++ List.replicate (xs.length + 3 - xs.length) z = xs ++ (List.replicate 0 z ++ List.replicate (3 - 0) z) := by
  rw [List.take_length, show xs.length + 3 - xs.length = 3 by omega]; rfl
theorem twin_set2 {α : Type} {xs : List α} {m z : α} {k : Nat} (hk : k < 3) : (xs ++ (List.replicate k m ++ List.replicate (3 - k) z)).set (xs.length + k) m = xs ++ (List.replicate (k + 1) m ++ List.replicate (3 - (k + 1)) z) := by
  rw [List.set_append_right _ _ (by omega), show xs.length + k - xs.length = k by omega, List.set_append_right _ _ (by simp), List.length_replicate, Nat.sub_self, show 3 - k = (3 - (k + 1)) + 1 by omega, List.replicate_succ, List.set_cons_zero, List.replicate_succ', List.append_assoc]
  rfl
theorem ptrAdd_zero (v : Value) (i s : Nat) : ptrAdd (elemP v i s) 0 = elemP v i s := by
  unfold elemP
  split <;> simp [ptrAdd, undef]

theorem twin_Byte (w0 : World) (v : Value) (xs : List UInt8) (mk : UInt8) (hx : SlR w0 v xs) (hl : xs.length ≤ 100000) : Ret Try.prog 23 #[v, .int .u8 (mk.toNat : Int)] w0 (fun u w' => ∃ fv, u = cutV fv 0 xs.length (xs.length + 3) (Enc.sz UInt8) ∧ capV fv = xs.length + 3 ∧ New w0 w' fv 5 (xs ++ [mk, mk, mk]) ∧ Bel w0 w') := by
  refine Ret.enter (args := [v, .int .u8 (mk.toNat : Int)]) Try.func23 rfl Try.ntmps23 Try.results23 rfl ?_
  have hS := St.start w0
  refine WC.seq (fun K1 hK1 => ?_)
  refine WC.region ?_
  refine WL.op rfl (opW.assignV (v := .slice none 0 0) rfl ?_)
  refine WL.nil ?_
  refine thenQ_n (hK1 _ _ ?_)
  refine WC.seq (fun K2 hK2 => ?_)
  refine WC.region ?_
  refine WL.op rfl (opW.moveV (v := v) rfl ?_)
  refine WL.op rfl (opW.lenV rfl ((hx.bel hS.old)) ?_)
  refine WL.op rfl (opW.add rfl rfl (wrap_i64 (by omega)) ?_)
  refine WL.op rfl (opW.makeSl (α := UInt8) (n := xs.length + 3) ((0 : UInt8)) (by first | rfl | (rw [enc_vz]; rfl) | (simp only [enc_vz]; rw [enc_vz]; rfl)) hS rfl rfl (by omega) (by simp only [maxLen]; omega) ?_)
  intro b11 w _ hS
  refine WL.op rfl (opW.assignV (v := (.slice (some ⟨b11, 0, none⟩) (xs.length + 3) (xs.length + 3))) rfl ?_)
  refine WL.nil ?_
  refine thenQ_n (hK2 _ _ ?_)
  refine WC.seq (fun K3 hK3 => ?_)
  refine WC.seq (fun K4 hK4 => ?_)
  refine WC.region ?_
  refine WL.op rfl (opW.assignI rfl ?_)
  refine WL.nil ?_
  refine thenQ_n (hK4 _ _ ?_)
  refine WC.block ?_
  refine WC.loop (fun q f w => ∃ k : Nat, Fits [(0, v), (1, .int .u8 (mk.toNat : Int)), (5, (.slice (some ⟨b11, 0, none⟩) (xs.length + 3) (xs.length + 3))), (6, .int .i64 (k : Int))] f ∧ St w0 [ownE (.slice (some ⟨b11, 0, none⟩) (xs.length + 3) (xs.length + 3)) 5 (xs.take k ++ List.replicate (xs.length + 3 - k) (0 : UInt8))] w ∧ k ≤ xs.length ∧ q = xs.length - k) (xs.length) ?_ ?_
  ·
    exact ⟨0, ⟨rfl, rfl, rfl, rfl, trivial⟩, hS, Nat.zero_le _, rfl⟩
  ·
    rintro q f w ⟨k, hfit, hS, hk0, hm⟩
    refine WC.fits _ hfit (fun g => ?_)
    clear hfit
    refine WC.seq (fun K5 hK5 => ?_)
    refine WC.seq (fun K6 hK6 => ?_)
    refine WC.region ?_
    refine WL.op rfl (opW.moveI rfl ?_)
    refine WL.op rfl (opW.moveV (v := v) rfl ?_)
    refine WL.op rfl (opW.lenV rfl ((hx.bel hS.old)) ?_)
    refine WL.op rfl (opW.lss rfl rfl ?_)
    refine WL.nil ?_
    refine thenQ_n (hK6 _ _ ?_)
    refine WC.cond _ rfl (fun hc0 => ?_) (fun hc0 => ?_)
    ·
      have hr0 := hc0
      try simp only [decide_eq_true_eq, decide_eq_false_iff_not, Bool.and_eq_true, Bool.or_eq_true, Bool.and_eq_false_iff, Bool.or_eq_false_iff, Bool.not_eq_true', Bool.not_eq_false', Int.not_lt, Int.not_le] at hc0
      have hkl : k < xs.length := by omega
      have hll : (xs.take k ++ List.replicate (xs.length + 3 - k) (0 : UInt8)).length = xs.length + 3 := by simp; omega
      refine WC.skip ?_
      refine thenQ_n (hK5 _ _ ?_)
      refine WC.seq (fun K7 hK7 => ?_)
      refine WC.block ?_
      refine WC.region ?_
      refine WL.op rfl (opW.moveV (v := (.slice (some ⟨b11, 0, none⟩) (xs.length + 3) (xs.length + 3))) rfl ?_)
      refine WL.op rfl (opW.moveI rfl ?_)
      refine WL.op rfl (opW.moveV (v := v) rfl ?_)
      refine WL.op rfl (opW.moveI rfl ?_)
      refine WL.op rfl (opW.idxV rfl ((hx.bel hS.old)) rfl (by omega) ?_)
      refine WL.op rfl (opW.loadV rfl (((hx.bel hS.old).isPt hkl).ld rfl) ?_)
      refine WL.op rfl (opW.idxV rfl (hS.sl (v := (.slice (some ⟨b11, 0, none⟩) (xs.length + 3) (xs.length + 3))) (xs := (xs.take k ++ List.replicate (xs.length + 3 - k) (0 : UInt8))) (by first | exact .here | exact .there (.here) | exact .there (.there (.here)) | exact .there (.there (.there (.here))) | exact .there (.there (.there (.there (.here)))) | exact .there (.there (.there (.there (.there (.here))))) | exact .there (.there (.there (.there (.there (.there (.here)))))) | exact .there (.there (.there (.there (.there (.there (.there (.here))))))) | exact .there (.there (.there (.there (.there (.there (.there (.there (.here)))))))) | exact .there (.there (.there (.there (.there (.there (.there (.there (.there (.here))))))))) | exact .there (.there (.there (.there (.there (.there (.there (.there (.there (.there (.here)))))))))) | exact .there (.there (.there (.there (.there (.there (.there (.there (.there (.there (.there (.here))))))))))) | exact .there (.there (.there (.there (.there (.there (.there (.there (.there (.there (.there (.there (.here)))))))))))))) rfl (by omega) ?_)
      refine WL.op0 (opW.storeOwn (v := (.slice (some ⟨b11, 0, none⟩) (xs.length + 3) (xs.length + 3))) (u := .int .u8 (xs[k].toNat : Int)) (xs := (xs.take k ++ List.replicate (xs.length + 3 - k) (0 : UInt8))) (i := k) (off := 0) (y' := xs[k]) hS (by first | exact .here | exact .there (.here) | exact .there (.there (.here)) | exact .there (.there (.there (.here))) | exact .there (.there (.there (.there (.here)))) | exact .there (.there (.there (.there (.there (.here))))) | exact .there (.there (.there (.there (.there (.there (.here)))))) | exact .there (.there (.there (.there (.there (.there (.there (.here))))))) | exact .there (.there (.there (.there (.there (.there (.there (.there (.here)))))))) | exact .there (.there (.there (.there (.there (.there (.there (.there (.there (.here))))))))) | exact .there (.there (.there (.there (.there (.there (.there (.there (.there (.there (.here)))))))))) | exact .there (.there (.there (.there (.there (.there (.there (.there (.there (.there (.there (.here))))))))))) | exact .there (.there (.there (.there (.there (.there (.there (.there (.there (.there (.there (.there (.here))))))))))))) (by omega) (ptrAdd_zero (.slice (some ⟨b11, 0, none⟩) (xs.length + 3) (xs.length + 3)) k (Enc.sz UInt8)).symm rfl (by first | exact Enc.size_eq (α := UInt8) xs[k] | rfl) (by first | exact Nat.le_refl _ | decide) (Enc.one (xs[k])) (spl_all (by rw [Enc.size_eq]; first | exact Enc.size_eq (α := UInt8) xs[k] | rfl)) ?_)
      intro w hS; replace hS := hS _ (by first | exact .here | exact .there (.here) | exact .there (.there (.here)) | exact .there (.there (.there (.here))) | exact .there (.there (.there (.there (.here)))) | exact .there (.there (.there (.there (.there (.here))))) | exact .there (.there (.there (.there (.there (.there (.here)))))) | exact .there (.there (.there (.there (.there (.there (.there (.here))))))) | exact .there (.there (.there (.there (.there (.there (.there (.there (.here)))))))) | exact .there (.there (.there (.there (.there (.there (.there (.there (.there (.here))))))))) | exact .there (.there (.there (.there (.there (.there (.there (.there (.there (.there (.here)))))))))) | exact .there (.there (.there (.there (.there (.there (.there (.there (.there (.there (.there (.here))))))))))) | exact .there (.there (.there (.there (.there (.there (.there (.there (.there (.there (.there (.there (.here)))))))))))))
      refine WL.nil ?_
      refine blockQ_n ?_
      refine thenQ_n (hK7 _ _ ?_)
      refine WC.region ?_
      refine WL.op rfl (opW.moveI rfl ?_)
      refine WL.op rfl (opW.add rfl rfl (wrap_i64 (by omega)) ?_)
      refine WL.op rfl (opW.assignI rfl ?_)
      refine WL.nil ?_
      refine thenQ_n ?_
      rw [twin_set1 hkl] at hS
      exact ⟨xs.length - (k + 1), by omega, k + 1, ⟨rfl, rfl, rfl, congrArg (Value.int .i64) (by omega), trivial⟩, hS, by omega, rfl⟩
    ·
      have hr0 := hc0
      try simp only [decide_eq_true_eq, decide_eq_false_iff_not, Bool.and_eq_true, Bool.or_eq_true, Bool.and_eq_false_iff, Bool.or_eq_false_iff, Bool.not_eq_true', Bool.not_eq_false', Int.not_lt, Int.not_le] at hc0
      obtain rfl : k = xs.length := by omega
      rw [twin_mid] at hS
      refine WC.exit ?_
      refine thenQ_e ?_
      refine thenQ_e ?_
      refine blockQ_hit ?_
      refine thenQ_n (hK3 _ _ ?_)
      refine WC.seq (fun K8 hK8 => ?_)
      refine WC.seq (fun K9 hK9 => ?_)
      refine WC.region ?_
      refine WL.op rfl (opW.assignI rfl ?_)
      refine WL.nil ?_
      refine thenQ_n (hK9 _ _ ?_)
      refine WC.block ?_
      refine WC.loop (fun q f w => ∃ k : Nat, Fits [(0, v), (1, .int .u8 (mk.toNat : Int)), (5, (.slice (some ⟨b11, 0, none⟩) (xs.length + 3) (xs.length + 3))), (7, .int .i64 (k : Int))] f ∧ St w0 [ownE (.slice (some ⟨b11, 0, none⟩) (xs.length + 3) (xs.length + 3)) 5 (xs ++ (List.replicate k mk ++ List.replicate (3 - k) (0 : UInt8)))] w ∧ k ≤ 3 ∧ q = 3 - k) (3) ?_ ?_
      ·
        exact ⟨0, ⟨rfl, rfl, rfl, rfl, trivial⟩, hS, Nat.zero_le _, rfl⟩
      ·
        rintro q f w ⟨k, hfit, hS, hk0, hm⟩
        refine WC.fits _ hfit (fun g => ?_)
        clear hfit
        refine WC.seq (fun K10 hK10 => ?_)
        refine WC.seq (fun K11 hK11 => ?_)
        refine WC.region ?_
        refine WL.op rfl (opW.moveI rfl ?_)
        refine WL.op rfl (opW.lss rfl rfl ?_)
        refine WL.nil ?_
        refine thenQ_n (hK11 _ _ ?_)
        refine WC.cond _ rfl (fun hc1 => ?_) (fun hc1 => ?_)
        ·
          have hr1 := hc1
          try simp only [decide_eq_true_eq, decide_eq_false_iff_not, Bool.and_eq_true, Bool.or_eq_true, Bool.and_eq_false_iff, Bool.or_eq_false_iff, Bool.not_eq_true', Bool.not_eq_false', Int.not_lt, Int.not_le] at hc1
          have hkl : k < 3 := by omega
          have hll : (xs ++ (List.replicate k mk ++ List.replicate (3 - k) (0 : UInt8))).length = xs.length + 3 := by simp; omega
          refine WC.skip ?_
          refine thenQ_n (hK10 _ _ ?_)
          refine WC.seq (fun K12 hK12 => ?_)
          refine WC.block ?_
          refine WC.region ?_
          refine WL.op rfl (opW.moveV (v := (.slice (some ⟨b11, 0, none⟩) (xs.length + 3) (xs.length + 3))) rfl ?_)
          refine WL.op rfl (opW.moveV (v := v) rfl ?_)
          refine WL.op rfl (opW.lenV rfl ((hx.bel hS.old)) ?_)
          refine WL.op rfl (opW.moveI rfl ?_)
          refine WL.op rfl (opW.add rfl rfl (wrap_i64 (by omega)) ?_)
          refine WL.op rfl (opW.moveI rfl ?_)
          refine WL.op rfl (opW.idxV rfl (hS.sl (v := (.slice (some ⟨b11, 0, none⟩) (xs.length + 3) (xs.length + 3))) (xs := (xs ++ (List.replicate k mk ++ List.replicate (3 - k) (0 : UInt8)))) (by first | exact .here | exact .there (.here) | exact .there (.there (.here)) | exact .there (.there (.there (.here))) | exact .there (.there (.there (.there (.here)))) | exact .there (.there (.there (.there (.there (.here))))) | exact .there (.there (.there (.there (.there (.there (.here)))))) | exact .there (.there (.there (.there (.there (.there (.there (.here))))))) | exact .there (.there (.there (.there (.there (.there (.there (.there (.here)))))))) | exact .there (.there (.there (.there (.there (.there (.there (.there (.there (.here))))))))) | exact .there (.there (.there (.there (.there (.there (.there (.there (.there (.there (.here)))))))))) | exact .there (.there (.there (.there (.there (.there (.there (.there (.there (.there (.there (.here))))))))))) | exact .there (.there (.there (.there (.there (.there (.there (.there (.there (.there (.there (.there (.here)))))))))))))) rfl (by omega) ?_)
          refine WL.op0 (opW.storeOwn (v := (.slice (some ⟨b11, 0, none⟩) (xs.length + 3) (xs.length + 3))) (u := .int .u8 (mk.toNat : Int)) (xs := (xs ++ (List.replicate k mk ++ List.replicate (3 - k) (0 : UInt8)))) (i := xs.length + k) (off := 0) (y' := mk) hS (by first | exact .here | exact .there (.here) | exact .there (.there (.here)) | exact .there (.there (.there (.here))) | exact .there (.there (.there (.there (.here)))) | exact .there (.there (.there (.there (.there (.here))))) | exact .there (.there (.there (.there (.there (.there (.here)))))) | exact .there (.there (.there (.there (.there (.there (.there (.here))))))) | exact .there (.there (.there (.there (.there (.there (.there (.there (.here)))))))) | exact .there (.there (.there (.there (.there (.there (.there (.there (.there (.here))))))))) | exact .there (.there (.there (.there (.there (.there (.there (.there (.there (.there (.here)))))))))) | exact .there (.there (.there (.there (.there (.there (.there (.there (.there (.there (.there (.here))))))))))) | exact .there (.there (.there (.there (.there (.there (.there (.there (.there (.there (.there (.there (.here))))))))))))) (by omega) (ptrAdd_zero (.slice (some ⟨b11, 0, none⟩) (xs.length + 3) (xs.length + 3)) (xs.length + k) (Enc.sz UInt8)).symm rfl (by first | exact Enc.size_eq (α := UInt8) mk | rfl) (by first | exact Nat.le_refl _ | decide) (Enc.one mk) (spl_all (by rw [Enc.size_eq]; first | exact Enc.size_eq (α := UInt8) mk | rfl)) ?_)
          intro w hS; replace hS := hS _ (by first | exact .here | exact .there (.here) | exact .there (.there (.here)) | exact .there (.there (.there (.here))) | exact .there (.there (.there (.there (.here)))) | exact .there (.there (.there (.there (.there (.here))))) | exact .there (.there (.there (.there (.there (.there (.here)))))) | exact .there (.there (.there (.there (.there (.there (.there (.here))))))) | exact .there (.there (.there (.there (.there (.there (.there (.there (.here)))))))) | exact .there (.there (.there (.there (.there (.there (.there (.there (.there (.here))))))))) | exact .there (.there (.there (.there (.there (.there (.there (.there (.there (.there (.here)))))))))) | exact .there (.there (.there (.there (.there (.there (.there (.there (.there (.there (.there (.here))))))))))) | exact .there (.there (.there (.there (.there (.there (.there (.there (.there (.there (.there (.there (.here)))))))))))))
          refine WL.nil ?_
          refine blockQ_n ?_
          refine thenQ_n (hK12 _ _ ?_)
          refine WC.region ?_
          refine WL.op rfl (opW.moveI rfl ?_)
          refine WL.op rfl (opW.add rfl rfl (wrap_i64 (by omega)) ?_)
          refine WL.op rfl (opW.assignI rfl ?_)
          refine WL.nil ?_
          refine thenQ_n ?_
          rw [twin_set2 hkl] at hS
          exact ⟨3 - (k + 1), by omega, k + 1, ⟨rfl, rfl, rfl, congrArg (Value.int .i64) (by omega), trivial⟩, hS, by omega, rfl⟩
        ·
          have hr1 := hc1
          try simp only [decide_eq_true_eq, decide_eq_false_iff_not, Bool.and_eq_true, Bool.or_eq_true, Bool.and_eq_false_iff, Bool.or_eq_false_iff, Bool.not_eq_true', Bool.not_eq_false', Int.not_lt, Int.not_le] at hc1
          obtain rfl : k = 3 := by omega
          have hS3 : St w0 [ownE (.slice (some ⟨b11, 0, none⟩) (xs.length + 3) (xs.length + 3)) 5 (xs ++ [mk, mk, mk])] w := hS
          clear hS
          have hS := hS3
          refine WC.exit ?_
          refine thenQ_e ?_
          refine thenQ_e ?_
          refine blockQ_hit ?_
          refine thenQ_n (hK8 _ _ ?_)
          refine WC.seq (fun K13 hK13 => ?_)
          refine WC.region ?_
          refine WL.op rfl (opW.moveV (v := (.slice (some ⟨b11, 0, none⟩) (xs.length + 3) (xs.length + 3))) rfl ?_)
          refine WL.op rfl (opW.moveV (v := v) rfl ?_)
          refine WL.op rfl (opW.lenV rfl ((hx.bel hS.old)) ?_)
          refine WL.op rfl (opW.cutS (l := 0) (h' := xs.length) (m := xs.length + 3) (hS.sl (v := (.slice (some ⟨b11, 0, none⟩) (xs.length + 3) (xs.length + 3))) (xs := xs ++ [mk, mk, mk]) (by first | exact .here | exact .there (.here) | exact .there (.there (.here)) | exact .there (.there (.there (.here))) | exact .there (.there (.there (.there (.here)))) | exact .there (.there (.there (.there (.there (.here))))) | exact .there (.there (.there (.there (.there (.there (.here)))))) | exact .there (.there (.there (.there (.there (.there (.there (.here))))))) | exact .there (.there (.there (.there (.there (.there (.there (.there (.here)))))))) | exact .there (.there (.there (.there (.there (.there (.there (.there (.there (.here))))))))) | exact .there (.there (.there (.there (.there (.there (.there (.there (.there (.there (.here)))))))))) | exact .there (.there (.there (.there (.there (.there (.there (.there (.there (.there (.there (.here))))))))))) | exact .there (.there (.there (.there (.there (.there (.there (.there (.there (.there (.there (.there (.here)))))))))))))) ⟨rfl, Nat.le_refl _⟩ ⟨⟨_, rfl⟩, by omega⟩ ⟨rfl, Nat.zero_le _⟩ ?_)
          refine WL.op rfl (opW.assignV (v := (cutV (.slice (some ⟨b11, 0, none⟩) (xs.length + 3) (xs.length + 3)) 0 xs.length (xs.length + 3) (Enc.sz UInt8))) rfl ?_)
          refine WL.nil ?_
          refine thenQ_n (hK13 _ _ ?_)
          refine WC.ret ?_
          refine bodyQ_ret (.tmpV (v := cutV (.slice (some ⟨b11, 0, none⟩) (xs.length + 3) (xs.length + 3)) 0 xs.length (xs.length + 3) (Enc.sz UInt8)) rfl .nil) ?_
          exact ⟨(.slice (some ⟨b11, 0, none⟩) (xs.length + 3) (xs.length + 3)), rfl, rfl, hS.own_new (by first | exact .here | exact .there (.here) | exact .there (.there (.here)) | exact .there (.there (.there (.here))) | exact .there (.there (.there (.there (.here)))) | exact .there (.there (.there (.there (.there (.here))))) | exact .there (.there (.there (.there (.there (.there (.here)))))) | exact .there (.there (.there (.there (.there (.there (.there (.here))))))) | exact .there (.there (.there (.there (.there (.there (.there (.there (.here)))))))) | exact .there (.there (.there (.there (.there (.there (.there (.there (.there (.here))))))))) | exact .there (.there (.there (.there (.there (.there (.there (.there (.there (.there (.here)))))))))) | exact .there (.there (.there (.there (.there (.there (.there (.there (.there (.there (.there (.here))))))))))) | exact .there (.there (.there (.there (.there (.there (.there (.there (.there (.there (.there (.there (.here))))))))))))), hS.old⟩

theorem left_Byte (w0 : World) (fv u : Value) (xs : List UInt8) (mk : UInt8) (hcf : capV fv = xs.length + 3) (hf : SlR w0 fv (xs ++ [mk, mk, mk])) (hu : SlR w0 u xs) : Ret Try.prog 28 #[(cutV fv 0 xs.length (xs.length + 3) (Enc.sz UInt8)), u, .int .u8 (mk.toNat : Int)] w0 (fun r w' => r = .bool true ∧ Bel w0 w') := by
  refine Ret.enter (args := [(cutV fv 0 xs.length (xs.length + 3) (Enc.sz UInt8)), u, .int .u8 (mk.toNat : Int)]) Try.func28 rfl Try.ntmps28 Try.results28 rfl ?_
  have hS := St.start w0
  have hlx : (xs ++ [mk, mk, mk]).length = xs.length + 3 := by simp
  have ht : SlR w0 (cutV fv 0 xs.length (xs.length + 3) (Enc.sz UInt8)) xs := by
    have := hf.head (m := xs.length + 3) (by omega) (by omega)
    exact this
  have hct : capV (cutV fv 0 xs.length (xs.length + 3) (Enc.sz UInt8)) = xs.length + 3 := by obtain ⟨a, c, h⟩ := hf.eq; rw [h]; simp [cutV, capV]
  have hr : SlR w0 (cutV (cutV fv 0 xs.length (xs.length + 3) (Enc.sz UInt8)) 0 (xs.length + 3) (xs.length + 3) (Enc.sz UInt8)) (xs ++ [mk, mk, mk]) := by
    have := hf.front (k := xs.length + 3) (m := xs.length + 3) (by omega) (Nat.le_refl _) (by omega)
    rw [List.take_of_length_le (by omega)] at this
    rw [cutV_cut0]
    exact this
  have hle := hf.le
  rw [hlx] at hle
  simp only [maxLen] at hle
  refine WC.seq (fun K1 hK1 => ?_)
  refine WC.region ?_
  refine WL.op rfl (opW.assignB rfl ?_)
  refine WL.nil ?_
  refine thenQ_n (hK1 _ _ ?_)
  refine WC.seq (fun K2 hK2 => ?_)
  refine WC.seq (fun K3 hK3 => ?_)
  refine WC.region ?_
  refine WL.op rfl (opW.moveV (v := (cutV fv 0 xs.length (xs.length + 3) (Enc.sz UInt8))) rfl ?_)
  refine WL.op rfl (opW.moveV (v := u) rfl ?_)
  refine WL.op rfl (opW.call (same_b _ _ _ xs xs (ht.bel hS.old) (hu.bel hS.old)) rfl ?_)
  rintro _ w ⟨rfl, hw⟩; replace hS := hS.bel hw
  rw [decide_eq_true (rfl : xs = xs)]
  refine WL.op rfl (opW.not rfl ?_)
  refine WL.op rfl (opW.moveB rfl ?_)
  refine WL.gT 13 rfl rfl rfl (WL.op rfl (opW.moveV (v := (cutV fv 0 xs.length (xs.length + 3) (Enc.sz UInt8))) rfl ?_))
  refine WL.gT 13 rfl rfl rfl (WL.op rfl (opW.cap (v := (cutV fv 0 xs.length (xs.length + 3) (Enc.sz UInt8))) rfl (ht.bel hS.old) ?_))
  refine WL.gT 13 rfl rfl rfl (WL.op rfl (opW.moveV (v := u) rfl ?_))
  refine WL.gT 13 rfl rfl rfl (WL.op rfl (opW.lenV rfl ((hu.bel hS.old)) ?_))
  refine WL.gT 13 rfl rfl rfl (WL.op rfl (opW.add rfl rfl (wrap_i64 (by omega)) ?_))
  refine WL.gT 13 rfl rfl rfl (WL.op rfl (opW.lss rfl rfl ?_))
  refine WL.op rfl (opW.pickT rfl rfl ?_)
  refine WL.nil ?_
  refine thenQ_n (hK3 _ _ ?_)
  refine WC.cond _ rfl (fun hc0 => ?_) (fun hc0 => ?_)
  ·
    have hr0 := hc0
    try simp only [decide_eq_true_eq, decide_eq_false_iff_not, Bool.and_eq_true, Bool.or_eq_true, Bool.and_eq_false_iff, Bool.or_eq_false_iff, Bool.not_eq_true', Bool.not_eq_false', Int.not_lt, Int.not_le] at hc0
    simp [hct] at hr0
  ·
    have hr0 := hc0
    try simp only [decide_eq_true_eq, decide_eq_false_iff_not, Bool.and_eq_true, Bool.or_eq_true, Bool.and_eq_false_iff, Bool.or_eq_false_iff, Bool.not_eq_true', Bool.not_eq_false', Int.not_lt, Int.not_le] at hc0
    refine WC.skip ?_
    refine thenQ_n (hK2 _ _ ?_)
    refine WC.seq (fun K4 hK4 => ?_)
    refine WC.region ?_
    refine WL.op rfl (opW.moveV (v := (cutV fv 0 xs.length (xs.length + 3) (Enc.sz UInt8))) rfl ?_)
    refine WL.op rfl (opW.moveV (v := u) rfl ?_)
    refine WL.op rfl (opW.lenV rfl ((hu.bel hS.old)) ?_)
    refine WL.op rfl (opW.add rfl rfl (wrap_i64 (by omega)) ?_)
    refine WL.op rfl (opW.cutS (l := 0) (h' := xs.length + 3) (m := xs.length + 3) (ht.bel hS.old) ⟨hct.symm, Nat.le_of_eq hct.symm⟩ ⟨⟨_, rfl⟩, Nat.le_refl _⟩ ⟨rfl, Nat.zero_le _⟩ ?_)
    refine WL.op rfl (opW.assignV (v := (cutV (cutV fv 0 xs.length (xs.length + 3) (Enc.sz UInt8)) 0 (xs.length + 3) (xs.length + 3) (Enc.sz UInt8))) rfl ?_)
    refine WL.nil ?_
    refine thenQ_n (hK4 _ _ ?_)
    refine WC.seq (fun K5 hK5 => ?_)
    refine WC.seq (fun K6 hK6 => ?_)
    refine WC.region ?_
    refine WL.op rfl (opW.assignI rfl ?_)
    refine WL.nil ?_
    refine thenQ_n (hK6 _ _ ?_)
    refine WC.block ?_
    refine WC.loop (fun q f w => ∃ k : Nat, Fits [(1, u), (2, .int .u8 (mk.toNat : Int)), (7, (cutV (cutV fv 0 xs.length (xs.length + 3) (Enc.sz UInt8)) 0 (xs.length + 3) (xs.length + 3) (Enc.sz UInt8))), (8, .int .i64 (k : Int))] f ∧ St w0 [] w ∧ k ≤ 3 ∧ q = 3 - k) (3) ?_ ?_
    ·
      exact ⟨0, ⟨rfl, rfl, rfl, rfl, trivial⟩, hS, Nat.zero_le _, rfl⟩
    ·
      rintro q f w ⟨k, hfit, hS, hk0, hm⟩
      refine WC.fits _ hfit (fun g => ?_)
      clear hfit
      refine WC.seq (fun K7 hK7 => ?_)
      refine WC.seq (fun K8 hK8 => ?_)
      refine WC.region ?_
      refine WL.op rfl (opW.moveI rfl ?_)
      refine WL.op rfl (opW.lss rfl rfl ?_)
      refine WL.nil ?_
      refine thenQ_n (hK8 _ _ ?_)
      refine WC.cond _ rfl (fun hc1 => ?_) (fun hc1 => ?_)
      ·
        have hr1 := hc1
        try simp only [decide_eq_true_eq, decide_eq_false_iff_not, Bool.and_eq_true, Bool.or_eq_true, Bool.and_eq_false_iff, Bool.or_eq_false_iff, Bool.not_eq_true', Bool.not_eq_false', Int.not_lt, Int.not_le] at hc1
        have hkl : k < 3 := by omega
        have hkx : xs.length + k < (xs ++ [mk, mk, mk]).length := by omega
        refine WC.skip ?_
        refine thenQ_n (hK7 _ _ ?_)
        refine WC.seq (fun K9 hK9 => ?_)
        refine WC.block ?_
        refine WC.seq (fun K10 hK10 => ?_)
        refine WC.region ?_
        refine WL.op rfl (opW.moveV (v := (cutV (cutV fv 0 xs.length (xs.length + 3) (Enc.sz UInt8)) 0 (xs.length + 3) (xs.length + 3) (Enc.sz UInt8))) rfl ?_)
        refine WL.op rfl (opW.moveV (v := u) rfl ?_)
        refine WL.op rfl (opW.lenV rfl ((hu.bel hS.old)) ?_)
        refine WL.op rfl (opW.moveI rfl ?_)
        refine WL.op rfl (opW.add rfl rfl (wrap_i64 (by omega)) ?_)
        refine WL.op rfl (opW.idxV rfl ((hr.bel hS.old)) rfl (by omega) ?_)
        refine WL.op rfl (opW.loadV rfl (((hr.bel hS.old).isPt (i := xs.length + k) hkx).ld rfl) ?_)
        refine WL.op rfl (opW.moveI rfl ?_)
        refine WL.op rfl (opW.neq rfl rfl ?_)
        refine WL.nil ?_
        refine thenQ_n (hK10 _ _ ?_)
        refine WC.cond _ rfl (fun hc2 => ?_) (fun hc2 => ?_)
        ·
          have hr2 := hc2
          try simp only [decide_eq_true_eq, decide_eq_false_iff_not, Bool.and_eq_true, Bool.or_eq_true, Bool.and_eq_false_iff, Bool.or_eq_false_iff, Bool.not_eq_true', Bool.not_eq_false', Int.not_lt, Int.not_le] at hc2
          have hg : (xs ++ [mk, mk, mk])[xs.length + k] = mk := by
            rw [List.getElem_append_right (by omega)]
            rcases (by omega : k = 0 ∨ k = 1 ∨ k = 2) with rfl | rfl | rfl <;> simp
          rw [hg] at hr2
          simp at hr2
        ·
          have hr2 := hc2
          try simp only [decide_eq_true_eq, decide_eq_false_iff_not, Bool.and_eq_true, Bool.or_eq_true, Bool.and_eq_false_iff, Bool.or_eq_false_iff, Bool.not_eq_true', Bool.not_eq_false', Int.not_lt, Int.not_le] at hc2
          refine WC.skip ?_
          refine blockQ_n ?_
          refine thenQ_n (hK9 _ _ ?_)
          refine WC.region ?_
          refine WL.op rfl (opW.moveI rfl ?_)
          refine WL.op rfl (opW.add rfl rfl (wrap_i64 (by omega)) ?_)
          refine WL.op rfl (opW.assignI rfl ?_)
          refine WL.nil ?_
          refine thenQ_n ?_
          exact ⟨3 - (k + 1), by omega, k + 1, ⟨rfl, rfl, rfl, congrArg (Value.int .i64) (by omega), trivial⟩, hS, by omega, rfl⟩
      ·
        have hr1 := hc1
        try simp only [decide_eq_true_eq, decide_eq_false_iff_not, Bool.and_eq_true, Bool.or_eq_true, Bool.and_eq_false_iff, Bool.or_eq_false_iff, Bool.not_eq_true', Bool.not_eq_false', Int.not_lt, Int.not_le] at hc1
        refine WC.exit ?_
        refine thenQ_e ?_
        refine thenQ_e ?_
        refine blockQ_hit ?_
        refine thenQ_n (hK5 _ _ ?_)
        refine WC.seq (fun K11 hK11 => ?_)
        refine WC.region ?_
        refine WL.op rfl (opW.assignB rfl ?_)
        refine WL.nil ?_
        refine thenQ_n (hK11 _ _ ?_)
        refine WC.ret ?_
        refine bodyQ_ret (.tmpB rfl .nil) ?_
        exact ⟨rfl, hS.old⟩

theorem twinBytes_ok (w0 : World) (v : Value) (xs : List UInt8) (hx : SlR w0 v xs) (hl : xs.length ≤ 100000) : Ret Try.prog 9 #[v] w0 (fun u w' => ∃ fv, u = cutV fv 0 xs.length (xs.length + 3) (Enc.sz UInt8) ∧ capV fv = xs.length + 3 ∧ New w0 w' fv 5 (xs ++ [165, 165, 165]) ∧ Bel w0 w') := by
  refine Ret.enter (args := [v]) Try.func9 rfl Try.ntmps9 Try.results9 rfl ?_
  have hS := St.start w0
  refine WC.seq (fun K1 hK1 => ?_)
  refine WC.region ?_
  refine WL.op rfl (opW.assignV (v := .slice none 0 0) rfl ?_)
  refine WL.nil ?_
  refine thenQ_n (hK1 _ _ ?_)
  refine WC.seq (fun K2 hK2 => ?_)
  refine WC.region ?_
  refine WL.op rfl (opW.moveV (v := v) rfl ?_)
  refine WL.op rfl (opW.call (twin_Byte _ v xs 165 (hx.bel hS.old) hl) rfl ?_)
  rintro _ w ⟨fv, rfl, hc, hn, hw⟩
  replace hS := hS.newOwn hw hn.1 hn.2
  refine WL.op rfl (opW.assignV (v := (cutV fv 0 xs.length (xs.length + 3) (Enc.sz UInt8))) rfl ?_)
  refine WL.nil ?_
  refine thenQ_n (hK2 _ _ ?_)
  refine WC.ret ?_
  refine bodyQ_ret (.tmpV (v := (cutV fv 0 xs.length (xs.length + 3) (Enc.sz UInt8))) rfl .nil) ?_
  exact ⟨fv, rfl, hc, hS.own_new (by first | exact .here | exact .there (.here) | exact .there (.there (.here)) | exact .there (.there (.there (.here))) | exact .there (.there (.there (.there (.here)))) | exact .there (.there (.there (.there (.there (.here))))) | exact .there (.there (.there (.there (.there (.there (.here)))))) | exact .there (.there (.there (.there (.there (.there (.there (.here))))))) | exact .there (.there (.there (.there (.there (.there (.there (.there (.here)))))))) | exact .there (.there (.there (.there (.there (.there (.there (.there (.there (.here))))))))) | exact .there (.there (.there (.there (.there (.there (.there (.there (.there (.there (.here)))))))))) | exact .there (.there (.there (.there (.there (.there (.there (.there (.there (.there (.there (.here))))))))))) | exact .there (.there (.there (.there (.there (.there (.there (.there (.there (.there (.there (.there (.here))))))))))))), hS.old⟩

theorem leftBytes_ok (w0 : World) (fv u : Value) (xs : List UInt8) (hcf : capV fv = xs.length + 3) (hf : SlR w0 fv (xs ++ [165, 165, 165])) (hu : SlR w0 u xs) : Ret Try.prog 15 #[(cutV fv 0 xs.length (xs.length + 3) (Enc.sz UInt8)), u] w0 (fun r w' => r = .bool true ∧ Bel w0 w') := by
  refine Ret.enter (args := [(cutV fv 0 xs.length (xs.length + 3) (Enc.sz UInt8)), u]) Try.func15 rfl Try.ntmps15 Try.results15 rfl ?_
  have hS := St.start w0
  refine WC.seq (fun K1 hK1 => ?_)
  refine WC.region ?_
  refine WL.op rfl (opW.assignB rfl ?_)
  refine WL.nil ?_
  refine thenQ_n (hK1 _ _ ?_)
  refine WC.seq (fun K2 hK2 => ?_)
  refine WC.region ?_
  refine WL.op rfl (opW.moveV (v := (cutV fv 0 xs.length (xs.length + 3) (Enc.sz UInt8))) rfl ?_)
  refine WL.op rfl (opW.moveV (v := u) rfl ?_)
  refine WL.op rfl (opW.call (left_Byte _ fv u xs 165 hcf (hf.bel hS.old) (hu.bel hS.old)) rfl ?_)
  rintro _ w ⟨rfl, hw⟩; replace hS := hS.bel hw
  refine WL.op rfl (opW.assignB rfl ?_)
  refine WL.nil ?_
  refine thenQ_n (hK2 _ _ ?_)
  refine WC.ret ?_
  refine bodyQ_ret (.tmpB rfl .nil) ?_
  exact ⟨rfl, hS.old⟩

end Go.Fer
