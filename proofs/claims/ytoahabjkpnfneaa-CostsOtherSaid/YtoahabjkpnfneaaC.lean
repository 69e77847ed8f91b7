/- costs.parts -/
import Derived.Test.YtoahabjkpnfneaaR
import Derived.Test.YtoahabjkpnfneaaIters
set_option linter.all false
namespace Go.Fer
open Go Go.Proofs Go.RowKit

def lenV (v : Value) : Nat := match v with | .slice _ n _ => n | _ => 0
theorem lenV_eq {α : Type} [Enc α] {w : World} {v : Value} {xs : List α} (h : SlR w v xs) : lenV v = xs.length := by obtain ⟨a, c, rfl⟩ := h.eq; rfl
/-- how many bytes of data instructions have -/
def dataL (l : List Instr) : Nat := (l.map fun i => lenV i.data.v).sum
theorem dataL_step {l : List Instr} {k : Nat} (hk : k < l.length) : dataL (l.take (k + 1)) = dataL (l.take k) + lenV l[k].data.v := by
  unfold dataL; rw [List.take_succ_eq_append_getElem hk, List.map_append, List.sum_append]; simp

def partsL (s d : Nat) (writes : Int) (units : Nat) : List U64 := [⟨tmF s 720 1 false⟩, ⟨tmF (max 0 writes).toNat 300 1 false⟩, ⟨d % 18446744073709551616 / 4⟩, ⟨units⟩]
def costF (s d : Nat) (writes : Int) (units : Nat) : Nat := sumL (partsL s d writes units)
theorem maxW (a : Int) : (if (0 : Int) < a then a else 0) = (((max 0 a).toNat : Nat) : Int) := by split <;> omega
theorem tmF_lt {a b d : Nat} {up : Bool} : tmF a b d up < 18446744073709551616 := by
  unfold tmF
  split
  · decide
  · rename_i h
    have := quoLt h
    split
    · exact sumH_lt _ _
    · exact this
theorem partsL_ok {s d : Nat} {writes : Int} {units : Nat} (hu : units < 18446744073709551616) : Okl (partsL s d writes units) := by
  intro x hx
  simp only [partsL, List.mem_cons, List.not_mem_nil, or_false] at hx
  have h3 : d % 18446744073709551616 / 4 < 18446744073709551616 := Nat.lt_of_le_of_lt (Nat.div_le_self _ _) (Nat.mod_lt _ (by decide))
  rcases hx with rfl | rfl | rfl | rfl
  · exact tmF_lt
  · exact tmF_lt
  · exact h3
  · exact hu
theorem sumL_two (l : List U64) (x : U64) : sumL [⟨sumL l⟩, x] = sumL (l ++ [x]) := by
  have h := sumL_lt l
  have e : sumH 0 (sumL l) = sumL l := by
    unfold sumH
    rw [if_pos (by omega)]; omega
  show sumH (sumH 0 (sumL l)) x.n = sumL (l ++ [x])
  rw [e]
  unfold sumL
  rw [List.foldl_append]
  rfl

theorem parts1_ok (wb w0 : World) (N b l bt bw bu : Nat) (J : Nat → World → Prop) (x : Tx) (writes : Int) (units : Nat) (sg : List (Vector UInt8 64)) (ins : List Instr) (hsg : SlR wb x.sigs.v sg) (hins : SlR wb x.m.instrs.v ins) (hok : ∀ e ∈ ins, Instr.ok wb e) (hwr : -9223372036854775808 ≤ writes ∧ writes ≤ 9223372036854775807) (hF : St wb [blkE bu #[.int .u64 ((units : Nat) : Int)] 34, blkE bw #[.int .i64 writes] 3, blkE bt (Enc.enc x) 33] w0) (hkp : ∀ A B, St wb [blkE bu #[.int .u64 ((units : Nat) : Int)] 34, blkE bw #[.int .i64 writes] 3, blkE bt (Enc.enc x) 33] A → KpB N b A B → St wb [blkE bu #[.int .u64 ((units : Nat) : Int)] 34, blkE bw #[.int .i64 writes] 3, blkE bt (Enc.enc x) 33] B) (hJ : ∀ k A B, J k A → Bel A B → J k B) (hY : ∀ k (hk : k < (partsL sg.length (dataL ins) writes units).length) W1, J k W1 → YieldAt Fence.wide 0 Try.prog l #[.int .u64 ((((partsL sg.length (dataL ins) writes units)[k]).n : Nat) : Int)] W1 fun e W2 => e = .returned (.bool true) ∧ J (k + 1) W2 ∧ KpB N b W1 W2) (hj : J 0 w0) : Ret Try.prog 15 #[.func (.yield l) #[] #[], .pointer (some ⟨bt, 0, none⟩), .pointer (some ⟨bw, 0, none⟩), .pointer (some ⟨bu, 0, none⟩)] w0 (fun _ w' => J 4 w') := by
  refine Ret.enter (args := [.func (.yield l) #[] #[], .pointer (some ⟨bt, 0, none⟩), .pointer (some ⟨bw, 0, none⟩), .pointer (some ⟨bu, 0, none⟩)]) Try.func15 rfl Try.ntmps15 Try.results15 rfl ?_
  have hS := St.start w0
  refine WC.seq (fun K1 hK1 => ?_)
  refine WC.region ?_
  refine WL.op rfl (opW.assignI rfl ?_)
  refine WL.nil ?_
  refine thenQ_n (hK1 _ _ ?_)
  refine WC.seq (fun K2 hK2 => ?_)
  refine WC.seq (fun K3 hK3 => ?_)
  refine WC.region ?_
  refine WL.op rfl (opW.fieldAddrB rfl ?_)
  refine WL.op rfl (opW.fieldAddrB rfl ?_)
  refine WL.op rfl (opW.loadV rfl ((hF.bel hS.old).ld1 (by first | exact .here | exact .there (.here) | exact .there (.there (.here)) | exact .there (.there (.there (.here))) | exact .there (.there (.there (.there (.here)))) | exact .there (.there (.there (.there (.there (.here))))) | exact .there (.there (.there (.there (.there (.there (.here)))))) | exact .there (.there (.there (.there (.there (.there (.there (.here))))))) | exact .there (.there (.there (.there (.there (.there (.there (.there (.here)))))))) | exact .there (.there (.there (.there (.there (.there (.there (.there (.there (.here))))))))) | exact .there (.there (.there (.there (.there (.there (.there (.there (.there (.there (.here)))))))))) | exact .there (.there (.there (.there (.there (.there (.there (.there (.there (.there (.there (.here))))))))))) | exact .there (.there (.there (.there (.there (.there (.there (.there (.there (.there (.there (.there (.here))))))))))))) (Tx.at_m_instrs x)) ?_)
  refine WL.op rfl (opW.lenV rfl ((hins.bel (hF.bel hS.old).old)) ?_)
  refine WL.op rfl (opW.moveI rfl ?_)
  refine WL.nil ?_
  refine thenQ_n (hK3 _ _ ?_)
  refine WC.block ?_
  refine WC.loop (fun q f w => ∃ k : Nat, Fits [(0, .func (.yield l) #[] #[]), (1, .pointer (some ⟨bt, 0, none⟩)), (2, .pointer (some ⟨bw, 0, none⟩)), (3, .pointer (some ⟨bu, 0, none⟩)), (5, .int .u64 ((dataL (ins.take k) % 18446744073709551616 : Nat) : Int)), (10, x.m.instrs.v), (11, .int .i64 (ins.length : Int)), (12, .int .i64 (k : Int))] f ∧ St w0 [] w ∧ k ≤ ins.length ∧ q = ins.length - k) (ins.length) ?_ ?_
  ·
    exact ⟨0, ⟨rfl, rfl, rfl, rfl, rfl, rfl, rfl, rfl, trivial⟩, hS, Nat.zero_le _, rfl⟩
  ·
    rintro q f w ⟨k, hfit, hS, hk0, hm⟩
    refine WC.fits _ hfit (fun g => ?_)
    clear hfit
    refine WC.seq (fun K4 hK4 => ?_)
    refine WC.region ?_
    refine WL.op rfl (opW.lss rfl rfl ?_)
    refine WL.nil ?_
    refine thenQ_n (hK4 _ _ ?_)
    refine WC.seq (fun K5 hK5 => ?_)
    refine WC.cond _ rfl (fun hc0 => ?_) (fun hc0 => ?_)
    ·
      have hr0 := hc0
      try simp only [decide_eq_true_eq, decide_eq_false_iff_not, Bool.and_eq_true, Bool.or_eq_true, Bool.and_eq_false_iff, Bool.or_eq_false_iff, Bool.not_eq_true', Bool.not_eq_false', Int.not_lt, Int.not_le] at hc0
      have hkl : k < ins.length := by omega
      obtain ⟨⟨la, hla, _⟩, ⟨ld, hld, _⟩⟩ := hok ins[k] (List.getElem_mem hkl)
      have hmx := hins.le
      have hmy := hld.le
      simp only [maxLen] at hmx hmy
      refine WC.skip ?_
      refine thenQ_n (hK5 _ _ ?_)
      refine WC.seq (fun K6 hK6 => ?_)
      refine WC.block ?_
      refine WC.seq (fun K7 hK7 => ?_)
      refine WC.region ?_
      refine WL.op rfl (opW.idxV rfl ((hins.bel (hF.bel hS.old).old)) rfl (by omega) ?_)
      refine WL.op rfl (opW.loadV rfl (((hins.bel (hF.bel hS.old).old).isPt hkl).ldA (Enc.size_eq _)) ?_)
      refine WL.op rfl (opW.allocA hS ?_)
      intro b7 w _ hS
      refine WL.op0 (opW.storeE hS rfl rfl (by first | exact .here | exact .there (.here) | exact .there (.there (.here)) | exact .there (.there (.there (.here))) | exact .there (.there (.there (.there (.here)))) | exact .there (.there (.there (.there (.there (.here))))) | exact .there (.there (.there (.there (.there (.there (.here)))))) | exact .there (.there (.there (.there (.there (.there (.there (.here))))))) | exact .there (.there (.there (.there (.there (.there (.there (.there (.here)))))))) | exact .there (.there (.there (.there (.there (.there (.there (.there (.there (.here))))))))) | exact .there (.there (.there (.there (.there (.there (.there (.there (.there (.there (.here)))))))))) | exact .there (.there (.there (.there (.there (.there (.there (.there (.there (.there (.there (.here))))))))))) | exact .there (.there (.there (.there (.there (.there (.there (.there (.there (.there (.there (.there (.here))))))))))))) (by first | rfl | exact Enc.size_eq _) ?_)
      intro w hS; replace hS := hS _ (by first | exact .here | exact .there (.here) | exact .there (.there (.here)) | exact .there (.there (.there (.here))) | exact .there (.there (.there (.there (.here)))) | exact .there (.there (.there (.there (.there (.here))))) | exact .there (.there (.there (.there (.there (.there (.here)))))) | exact .there (.there (.there (.there (.there (.there (.there (.here))))))) | exact .there (.there (.there (.there (.there (.there (.there (.there (.here)))))))) | exact .there (.there (.there (.there (.there (.there (.there (.there (.there (.here))))))))) | exact .there (.there (.there (.there (.there (.there (.there (.there (.there (.there (.here)))))))))) | exact .there (.there (.there (.there (.there (.there (.there (.there (.there (.there (.there (.here))))))))))) | exact .there (.there (.there (.there (.there (.there (.there (.there (.there (.there (.there (.there (.here)))))))))))))
      refine WL.nil ?_
      refine thenQ_n (hK7 _ _ ?_)
      refine WC.region ?_
      refine WL.op rfl (opW.moveI rfl ?_)
      refine WL.op rfl (opW.fieldAddrB rfl ?_)
      refine WL.op rfl (opW.loadV rfl (hS.ld1 (by first | exact .here | exact .there (.here) | exact .there (.there (.here)) | exact .there (.there (.there (.here))) | exact .there (.there (.there (.there (.here)))) | exact .there (.there (.there (.there (.there (.here))))) | exact .there (.there (.there (.there (.there (.there (.here)))))) | exact .there (.there (.there (.there (.there (.there (.there (.here))))))) | exact .there (.there (.there (.there (.there (.there (.there (.there (.here)))))))) | exact .there (.there (.there (.there (.there (.there (.there (.there (.there (.here))))))))) | exact .there (.there (.there (.there (.there (.there (.there (.there (.there (.there (.here)))))))))) | exact .there (.there (.there (.there (.there (.there (.there (.there (.there (.there (.there (.here))))))))))) | exact .there (.there (.there (.there (.there (.there (.there (.there (.there (.there (.there (.there (.here))))))))))))) (Instr.at_data _)) ?_)
      refine WL.op rfl (opW.lenV rfl ((hld.bel (hF.bel hS.old).old)) ?_)
      refine WL.op rfl (opW.conv rfl (wrap_u64 (by omega)) ?_)
      refine WL.op rfl (opW.add rfl rfl (wrap_u64_add _ _) ?_)
      refine WL.op rfl (opW.assignI rfl ?_)
      refine WL.nil ?_
      refine blockQ_n ?_
      refine thenQ_n (hK6 _ _ ?_)
      refine WC.region ?_
      refine WL.op rfl (opW.add rfl rfl (wrap_i64 (by omega)) ?_)
      refine WL.op rfl (opW.moveI rfl ?_)
      refine WL.nil ?_
      refine thenQ_n ?_
      exact ⟨ins.length - (k + 1), by omega, k + 1, ⟨rfl, rfl, rfl, rfl, congrArg (fun i : Nat => Value.int .u64 (i : Int)) (by rw [dataL_step hkl, lenV_eq hld, Nat.mod_add_mod]), rfl, rfl, congrArg (Value.int .i64) (by omega), trivial⟩, hS.sub (by repeat (first | with_reducible exact List.nil_sublist _ | with_reducible exact List.Sublist.refl _ | with_reducible refine List.Sublist.cons₂ _ ?_ | with_reducible refine List.Sublist.cons _ ?_)), by omega, rfl⟩
    ·
      have hr0 := hc0
      try simp only [decide_eq_true_eq, decide_eq_false_iff_not, Bool.and_eq_true, Bool.or_eq_true, Bool.and_eq_false_iff, Bool.or_eq_false_iff, Bool.not_eq_true', Bool.not_eq_false', Int.not_lt, Int.not_le] at hc0
      obtain rfl : k = ins.length := by omega
      have hsl := hsg.le
      simp only [maxLen] at hsl
      have hdm : dataL (ins.take ins.length) % 18446744073709551616 < 18446744073709551616 := Nat.mod_lt _ (by decide)
      rw [List.take_length]
      rw [List.take_length] at hdm
      refine WC.exit ?_
      refine thenQ_e ?_
      refine thenQ_e ?_
      refine blockQ_hit ?_
      refine thenQ_n (hK2 _ _ ?_)
      refine WC.seq (fun K8 hK8 => ?_)
      refine WC.seq (fun K9 hK9 => ?_)
      refine WC.regionI ?_
      show WLI none 0 _ _ _ [] _ [0, 1, 2, 3, 4, 5, 6, 7] _ _
      refine WLI.op rfl rfl (by simp) (opW.opI (opW.moveV (v := .func (.yield l) #[] #[]) rfl ?_))
      refine WLI.op rfl rfl (by simp) (opW.opI (opW.fieldAddrB rfl ?_))
      refine WLI.op rfl rfl (by simp) (opW.opI (opW.loadV rfl ((hF.bel hS.old).ld1 (by first | exact .here | exact .there (.here) | exact .there (.there (.here)) | exact .there (.there (.there (.here))) | exact .there (.there (.there (.there (.here)))) | exact .there (.there (.there (.there (.there (.here))))) | exact .there (.there (.there (.there (.there (.there (.here)))))) | exact .there (.there (.there (.there (.there (.there (.there (.here))))))) | exact .there (.there (.there (.there (.there (.there (.there (.there (.here)))))))) | exact .there (.there (.there (.there (.there (.there (.there (.there (.there (.here))))))))) | exact .there (.there (.there (.there (.there (.there (.there (.there (.there (.there (.here)))))))))) | exact .there (.there (.there (.there (.there (.there (.there (.there (.there (.there (.there (.here))))))))))) | exact .there (.there (.there (.there (.there (.there (.there (.there (.there (.there (.there (.there (.here))))))))))))) (Tx.at_sigs x)) ?_))
      refine WLI.op rfl rfl (by simp) (opW.opI (opW.lenV rfl ((hsg.bel (hF.bel hS.old).old)) ?_))
      refine WLI.op rfl rfl (by simp) (opW.opI (opW.conv rfl (wrap_u64 (by omega)) ?_))
      refine WLI.op rfl rfl (by simp) (opW.opI (opW.call (wtimes_ok _ sg.length 720 1 false (by omega) (by decide) (by decide)) rfl ?_))
      rintro _ w ⟨rfl, hw⟩; replace hS := hS.bel hw
      refine WLI.op rfl rfl (by simp) (opI.yield (R' := fun w' => J 1 w' ∧ KpB N b _ w') rfl rfl (hY 0 (show 0 < 4 by decide) _ (hJ _ _ _ hj hS.old)) ?_)
      rintro w1 ⟨hj2, hk1⟩
      replace hF := hkp _ _ (hF.bel hS.old) hk1
      clear hS hj
      have hj := hj2
      clear hj2
      have hS := St.start w1
      refine WLI.op rfl rfl (by simp) (opW.opI (opW.not rfl ?_))
      refine WLI.nil ?_
      refine thenQ_n (hK9 _ _ ?_)
      refine WC.cond _ rfl (fun hc1 => ?_) (fun hc1 => ?_)
      ·
        have hr1 := hc1
        try simp only [decide_eq_true_eq, decide_eq_false_iff_not, Bool.and_eq_true, Bool.or_eq_true, Bool.and_eq_false_iff, Bool.or_eq_false_iff, Bool.not_eq_true', Bool.not_eq_false', Int.not_lt, Int.not_le] at hc1
        simp at hr1
      ·
        have hr1 := hc1
        try simp only [decide_eq_true_eq, decide_eq_false_iff_not, Bool.and_eq_true, Bool.or_eq_true, Bool.and_eq_false_iff, Bool.or_eq_false_iff, Bool.not_eq_true', Bool.not_eq_false', Int.not_lt, Int.not_le] at hc1
        refine WC.skip ?_
        refine thenQ_n (hK8 _ _ ?_)
        refine WC.seq (fun K10 hK10 => ?_)
        refine WC.seq (fun K11 hK11 => ?_)
        refine WC.regionI ?_
        show WLI none 0 _ _ _ [] _ [0, 1, 2, 3, 4, 5, 6] _ _
        refine WLI.op rfl rfl (by simp) (opW.opI (opW.moveV (v := .func (.yield l) #[] #[]) rfl ?_))
        refine WLI.op rfl rfl (by simp) (opW.opI (opW.loadV rfl ((hF.bel hS.old).ld1 (by first | exact .here | exact .there (.here) | exact .there (.there (.here)) | exact .there (.there (.there (.here))) | exact .there (.there (.there (.there (.here)))) | exact .there (.there (.there (.there (.there (.here))))) | exact .there (.there (.there (.there (.there (.there (.here)))))) | exact .there (.there (.there (.there (.there (.there (.there (.here))))))) | exact .there (.there (.there (.there (.there (.there (.there (.there (.here)))))))) | exact .there (.there (.there (.there (.there (.there (.there (.there (.there (.here))))))))) | exact .there (.there (.there (.there (.there (.there (.there (.there (.there (.there (.here)))))))))) | exact .there (.there (.there (.there (.there (.there (.there (.there (.there (.there (.there (.here))))))))))) | exact .there (.there (.there (.there (.there (.there (.there (.there (.there (.there (.there (.there (.here))))))))))))) rfl) ?_))
        refine WLI.op rfl rfl (by simp) (opW.opI (opW.maxI rfl rfl (maxW writes) ?_))
        refine WLI.op rfl rfl (by simp) (opW.opI (opW.conv rfl (wrap_u64 (by omega)) ?_))
        refine WLI.op rfl rfl (by simp) (opW.opI (opW.call (wtimes_ok _ (max 0 writes).toNat 300 1 false (by omega) (by decide) (by decide)) rfl ?_))
        rintro _ w ⟨rfl, hw⟩; replace hS := hS.bel hw
        refine WLI.op rfl rfl (by simp) (opI.yield (R' := fun w' => J 2 w' ∧ KpB N b _ w') rfl rfl (hY 1 (show 1 < 4 by decide) _ (hJ _ _ _ hj hS.old)) ?_)
        rintro w1 ⟨hj2, hk1⟩
        replace hF := hkp _ _ (hF.bel hS.old) hk1
        clear hS hj
        have hj := hj2
        clear hj2
        have hS := St.start w1
        refine WLI.op rfl rfl (by simp) (opW.opI (opW.not rfl ?_))
        refine WLI.nil ?_
        refine thenQ_n (hK11 _ _ ?_)
        refine WC.cond _ rfl (fun hc2 => ?_) (fun hc2 => ?_)
        ·
          have hr2 := hc2
          try simp only [decide_eq_true_eq, decide_eq_false_iff_not, Bool.and_eq_true, Bool.or_eq_true, Bool.and_eq_false_iff, Bool.or_eq_false_iff, Bool.not_eq_true', Bool.not_eq_false', Int.not_lt, Int.not_le] at hc2
          simp at hr2
        ·
          have hr2 := hc2
          try simp only [decide_eq_true_eq, decide_eq_false_iff_not, Bool.and_eq_true, Bool.or_eq_true, Bool.and_eq_false_iff, Bool.or_eq_false_iff, Bool.not_eq_true', Bool.not_eq_false', Int.not_lt, Int.not_le] at hc2
          refine WC.skip ?_
          refine thenQ_n (hK10 _ _ ?_)
          refine WC.seq (fun K12 hK12 => ?_)
          refine WC.regionI ?_
          show WLI none 0 _ _ _ [] _ [0, 1, 2, 3] _ _
          refine WLI.op rfl rfl (by simp) (opW.opI (opW.moveV (v := .func (.yield l) #[] #[]) rfl ?_))
          refine WLI.op rfl rfl (by simp) (opW.opI (opW.moveI rfl ?_))
          refine WLI.op rfl rfl (by simp) (opW.opI (opW.quo rfl rfl (by omega) (nquo (b := 4) hdm) ?_))
          refine WLI.op rfl rfl (by simp) (opI.yield (R' := fun w' => J 3 w' ∧ KpB N b _ w') rfl rfl (hY 2 (show 2 < 4 by decide) _ (hJ _ _ _ hj hS.old)) ?_)
          rintro w1 ⟨hj2, hk1⟩
          replace hF := hkp _ _ (hF.bel hS.old) hk1
          clear hS hj
          have hj := hj2
          clear hj2
          have hS := St.start w1
          refine WLI.nil ?_
          refine thenQ_n (hK12 _ _ ?_)
          refine WC.cond _ rfl (fun hc3 => ?_) (fun hc3 => ?_)
          ·
            have hr3 := hc3
            try simp only [decide_eq_true_eq, decide_eq_false_iff_not, Bool.and_eq_true, Bool.or_eq_true, Bool.and_eq_false_iff, Bool.or_eq_false_iff, Bool.not_eq_true', Bool.not_eq_false', Int.not_lt, Int.not_le] at hc3
            refine WC.regionI ?_
            show WLI none 0 _ _ _ [] _ [0, 1, 2] _ _
            refine WLI.op rfl rfl (by simp) (opW.opI (opW.moveV (v := .func (.yield l) #[] #[]) rfl ?_))
            refine WLI.op rfl rfl (by simp) (opW.opI (opW.loadV rfl ((hF.bel hS.old).ld1 (by first | exact .here | exact .there (.here) | exact .there (.there (.here)) | exact .there (.there (.there (.here))) | exact .there (.there (.there (.there (.here)))) | exact .there (.there (.there (.there (.there (.here))))) | exact .there (.there (.there (.there (.there (.there (.here)))))) | exact .there (.there (.there (.there (.there (.there (.there (.here))))))) | exact .there (.there (.there (.there (.there (.there (.there (.there (.here)))))))) | exact .there (.there (.there (.there (.there (.there (.there (.there (.there (.here))))))))) | exact .there (.there (.there (.there (.there (.there (.there (.there (.there (.there (.here)))))))))) | exact .there (.there (.there (.there (.there (.there (.there (.there (.there (.there (.there (.here))))))))))) | exact .there (.there (.there (.there (.there (.there (.there (.there (.there (.there (.there (.there (.here))))))))))))) rfl) ?_))
            refine WLI.op rfl rfl (by simp) (opI.yield (R' := fun w' => J 4 w' ∧ KpB N b _ w') rfl rfl (hY 3 (show 3 < 4 by decide) _ (hJ _ _ _ hj hS.old)) ?_)
            rintro w1 ⟨hj2, hk1⟩
            replace hF := hkp _ _ (hF.bel hS.old) hk1
            clear hS hj
            have hj := hj2
            clear hj2
            have hS := St.start w1
            refine WLI.nil ?_
            refine bodyQ_end .nil ?_
            exact hJ _ _ _ hj hS.old
          ·
            have hr3 := hc3
            try simp only [decide_eq_true_eq, decide_eq_false_iff_not, Bool.and_eq_true, Bool.or_eq_true, Bool.and_eq_false_iff, Bool.or_eq_false_iff, Bool.not_eq_true', Bool.not_eq_false', Int.not_lt, Int.not_le] at hc3
            simp at hr3

theorem parts_ok (wb w0 : World) (S : List Ent) (x : Tx) (writes : Int) (units : Nat) (hS0 : St wb S w0) : Ret Try.prog 11 #[.agg (Enc.enc x), .int .i64 writes, .int .u64 ((units : Nat) : Int)] w0 (fun u w' => ∃ bu bw bt, u = .func (.func 15) #[] #[.pointer (some ⟨bt, 0, none⟩), .pointer (some ⟨bw, 0, none⟩), .pointer (some ⟨bu, 0, none⟩)] ∧ St wb (blkE bu #[.int .u64 ((units : Nat) : Int)] 34 :: blkE bw #[.int .i64 writes] 3 :: blkE bt (Enc.enc x) 33 :: S) w') := by
  refine Ret.enter (args := [.agg (Enc.enc x), .int .i64 writes, .int .u64 ((units : Nat) : Int)]) Try.func11 rfl Try.ntmps11 Try.results11 rfl ?_
  have hS := St.start w0
  replace hS := hS0
  refine WC.seq (fun K1 hK1 => ?_)
  refine WC.region ?_
  refine WL.op rfl (opW.boxA hS rfl ?_)
  intro b3 w _ hS
  refine WL.op rfl (opW.box1 hS rfl rfl ?_)
  intro b4 w _ hS
  refine WL.op rfl (opW.box1 hS rfl rfl ?_)
  intro b5 w _ hS
  refine WL.op rfl (opW.assignV rfl ?_)
  refine WL.nil ?_
  refine thenQ_n (hK1 _ _ ?_)
  refine WC.seq (fun K2 hK2 => ?_)
  refine WC.region ?_
  refine WL.op rfl (opW.makeFn (vs := []) (cs := [.pointer (some ⟨b3, 0, none⟩), .pointer (some ⟨b4, 0, none⟩), .pointer (some ⟨b5, 0, none⟩)]) rfl rfl ?_)
  refine WL.op rfl (opW.assignV (v := .func (.func 15) #[] #[.pointer (some ⟨b3, 0, none⟩), .pointer (some ⟨b4, 0, none⟩), .pointer (some ⟨b5, 0, none⟩)]) rfl ?_)
  refine WL.nil ?_
  refine thenQ_n (hK2 _ _ ?_)
  refine WC.ret ?_
  refine bodyQ_ret (.tmpV (v := .func (.func 15) #[] #[.pointer (some ⟨b3, 0, none⟩), .pointer (some ⟨b4, 0, none⟩), .pointer (some ⟨b5, 0, none⟩)]) rfl .nil) ?_
  exact ⟨b5, b4, b3, rfl, hS⟩

end Go.Fer
