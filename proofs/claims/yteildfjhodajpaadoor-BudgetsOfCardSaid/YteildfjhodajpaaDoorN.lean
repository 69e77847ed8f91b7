/- ref08.Of -/
import Derived.Test.YteildfjhodajpaaDoorM
set_option linter.all false
namespace Go.Fer
open Go Go.Proofs Go.RowKit

theorem refbud_ok (w0 : World) : Ret Tryd.prog 29 #[] w0 (fun u w' => u = .agg (Enc.enc budK) ∧ Bel w0 w') := by
  refine Ret.enter (args := []) Tryd.func29 rfl Tryd.ntmps29 Tryd.results29 rfl ?_
  have hS := St.start w0
  refine WC.seq (fun K1 hK1 => ?_)
  refine WC.region ?_
  refine WL.op rfl (opW.allocA hS ?_)
  intro b0 w _ hS
  refine WL.nil ?_
  refine thenQ_n (hK1 _ _ ?_)
  refine WC.seq (fun K2 hK2 => ?_)
  refine WC.region ?_
  refine WL.op rfl (opW.buildVec (k := budK) (by first | rfl | (simp only [sysK, budK, markK, enc_vset, enc_vz]; rfl)) (by intro p hp; first | (exfalso; simp at hp; done) | (simp only [List.map_cons, List.map_nil, List.mem_cons, List.not_mem_nil, or_false] at hp; rcases hp with rfl | rfl | rfl | rfl <;> exact ⟨by simp, rfl⟩)) ?_)
  refine WL.op0 (opW.storeE hS rfl rfl (by first | exact .here | exact .there (.here) | exact .there (.there (.here)) | exact .there (.there (.there (.here))) | exact .there (.there (.there (.there (.here)))) | exact .there (.there (.there (.there (.there (.here))))) | exact .there (.there (.there (.there (.there (.there (.here)))))) | exact .there (.there (.there (.there (.there (.there (.there (.here))))))) | exact .there (.there (.there (.there (.there (.there (.there (.there (.here)))))))) | exact .there (.there (.there (.there (.there (.there (.there (.there (.there (.here))))))))) | exact .there (.there (.there (.there (.there (.there (.there (.there (.there (.there (.here)))))))))) | exact .there (.there (.there (.there (.there (.there (.there (.there (.there (.there (.there (.here))))))))))) | exact .there (.there (.there (.there (.there (.there (.there (.there (.there (.there (.there (.there (.here))))))))))))) (by first | rfl | exact Enc.size_eq _) ?_)
  intro w hS; replace hS := hS _ (by first | exact .here | exact .there (.here) | exact .there (.there (.here)) | exact .there (.there (.there (.here))) | exact .there (.there (.there (.there (.here)))) | exact .there (.there (.there (.there (.there (.here))))) | exact .there (.there (.there (.there (.there (.there (.here)))))) | exact .there (.there (.there (.there (.there (.there (.there (.here))))))) | exact .there (.there (.there (.there (.there (.there (.there (.there (.here)))))))) | exact .there (.there (.there (.there (.there (.there (.there (.there (.there (.here))))))))) | exact .there (.there (.there (.there (.there (.there (.there (.there (.there (.there (.here)))))))))) | exact .there (.there (.there (.there (.there (.there (.there (.there (.there (.there (.there (.here))))))))))) | exact .there (.there (.there (.there (.there (.there (.there (.there (.there (.there (.there (.there (.here)))))))))))))
  refine WL.nil ?_
  refine thenQ_n (hK2 _ _ ?_)
  refine WC.ret ?_
  refine bodyQ_ret (.cell (hS.ldA (by first | exact .here | exact .there (.here) | exact .there (.there (.here)) | exact .there (.there (.there (.here))) | exact .there (.there (.there (.there (.here)))) | exact .there (.there (.there (.there (.there (.here))))) | exact .there (.there (.there (.there (.there (.there (.here)))))) | exact .there (.there (.there (.there (.there (.there (.there (.here))))))) | exact .there (.there (.there (.there (.there (.there (.there (.there (.here)))))))) | exact .there (.there (.there (.there (.there (.there (.there (.there (.there (.here))))))))) | exact .there (.there (.there (.there (.there (.there (.there (.there (.there (.there (.here)))))))))) | exact .there (.there (.there (.there (.there (.there (.there (.there (.there (.there (.there (.here))))))))))) | exact .there (.there (.there (.there (.there (.there (.there (.there (.there (.there (.there (.there (.here))))))))))))) (Enc.size_eq budK)) .nil) ?_
  exact ⟨rfl, hS.old⟩

theorem refword_ok (w0 : World) (m : Message) (i : Instr) (keys : List (Vector UInt8 32)) (hk : SlR w0 m.keys.v keys) : Ret Tryd.prog 20 #[.agg (Enc.enc m), .agg (Enc.enc i)] w0 (fun u w' => u = .bool (isW keys i.program) ∧ Bel w0 w') := by
  refine Ret.enter (args := [.agg (Enc.enc m), .agg (Enc.enc i)]) Tryd.func20 rfl Tryd.ntmps20 Tryd.results20 rfl ?_
  have hS := St.start w0
  refine WC.seq (fun K1 hK1 => ?_)
  refine WC.region ?_
  refine WL.op rfl (opW.boxA hS rfl ?_)
  intro b2 w _ hS
  refine WL.op rfl (opW.boxA hS rfl ?_)
  intro b3 w _ hS
  refine WL.op rfl (opW.assignB rfl ?_)
  refine WL.nil ?_
  refine thenQ_n (hK1 _ _ ?_)
  refine WC.seq (fun K2 hK2 => ?_)
  refine WC.draw 18 (.look 0 (.look 1 (.look 2 (.look 3 (.look 4 (.look 5 (.look 6 (.look 7 (.look 8 (.look 9 (.look 10 (.look 11 (.look 12 (.look 13 (.one 14 (.look 15 (.look 16 (.look 17 .nil)))))))))))))))))) (by kernel_rfl) (fun _ _ _ h => h) (fun w1 hw1 => ?_)
  replace hS := hS.bel hw1
  have hS1 := hS
  have hT := St.start w1
  have hlt := u8_lt i.program
  refine ML.look rfl rfl rfl (fun w hw => (by have hS := hS1.bel hw; exact opW.fieldAddrB rfl ⟨rfl, rfl⟩)) ?_
  refine ML.look rfl rfl rfl (fun w hw => (by have hS := hS1.bel hw; exact opW.loadV rfl (hS.ld1 (by first | exact .here | exact .there (.here) | exact .there (.there (.here)) | exact .there (.there (.there (.here))) | exact .there (.there (.there (.there (.here)))) | exact .there (.there (.there (.there (.there (.here))))) | exact .there (.there (.there (.there (.there (.there (.here)))))) | exact .there (.there (.there (.there (.there (.there (.there (.here))))))) | exact .there (.there (.there (.there (.there (.there (.there (.there (.here)))))))) | exact .there (.there (.there (.there (.there (.there (.there (.there (.there (.here))))))))) | exact .there (.there (.there (.there (.there (.there (.there (.there (.there (.there (.here)))))))))) | exact .there (.there (.there (.there (.there (.there (.there (.there (.there (.there (.there (.here))))))))))) | exact .there (.there (.there (.there (.there (.there (.there (.there (.there (.there (.there (.there (.here))))))))))))) (Instr.at_program i)) ⟨rfl, rfl⟩)) ?_
  refine ML.look rfl rfl rfl (fun w hw => (by have hS := hS1.bel hw; exact opW.conv rfl (show IntKind.i64.wrap _ = (i.program.toNat : Int) from wrap_i64 (by omega)) ⟨rfl, rfl⟩)) ?_
  refine ML.look rfl rfl rfl (fun w hw => (by have hS := hS1.bel hw; exact opW.fieldAddrB rfl ⟨rfl, rfl⟩)) ?_
  refine ML.look rfl rfl rfl (fun w hw => (by have hS := hS1.bel hw; exact opW.loadV rfl (hS.ld1 (by first | exact .here | exact .there (.here) | exact .there (.there (.here)) | exact .there (.there (.there (.here))) | exact .there (.there (.there (.there (.here)))) | exact .there (.there (.there (.there (.there (.here))))) | exact .there (.there (.there (.there (.there (.there (.here)))))) | exact .there (.there (.there (.there (.there (.there (.there (.here))))))) | exact .there (.there (.there (.there (.there (.there (.there (.there (.here)))))))) | exact .there (.there (.there (.there (.there (.there (.there (.there (.there (.here))))))))) | exact .there (.there (.there (.there (.there (.there (.there (.there (.there (.there (.here)))))))))) | exact .there (.there (.there (.there (.there (.there (.there (.there (.there (.there (.there (.here))))))))))) | exact .there (.there (.there (.there (.there (.there (.there (.there (.there (.there (.there (.there (.here))))))))))))) (Message.at_keys m)) ⟨rfl, rfl⟩)) ?_
  refine ML.look rfl rfl rfl (fun w hw => (by have hS := hS1.bel hw; exact opW.lenV rfl ((hk.bel hS.old)) ⟨rfl, rfl⟩)) ?_
  refine ML.look rfl rfl rfl (fun w hw => (by have hS := hS1.bel hw; exact opW.lss rfl rfl ⟨rfl, rfl⟩)) ?_
  refine ML.look rfl rfl rfl (fun w hw => (by have hS := hS1.bel hw; exact opW.moveB rfl ⟨rfl, rfl⟩)) ?_
  refine ML.lookG  _ 12 rfl rfl rfl rfl rfl rfl (fun hg13 w hw => (by have hS := hS1.bel hw; exact opW.fieldAddrB rfl ⟨rfl, rfl⟩)) ?_
  refine ML.lookG (E := m.keys.v) _ 12 rfl rfl rfl rfl rfl rfl (fun hg14 w hw => (by have hS := hS1.bel hw; exact opW.loadV (by first | exact gv_of rfl hg14 | rfl) (hS.ld1 (by first | exact .here | exact .there (.here) | exact .there (.there (.here)) | exact .there (.there (.there (.here))) | exact .there (.there (.there (.there (.here)))) | exact .there (.there (.there (.there (.there (.here))))) | exact .there (.there (.there (.there (.there (.there (.here)))))) | exact .there (.there (.there (.there (.there (.there (.there (.here))))))) | exact .there (.there (.there (.there (.there (.there (.there (.there (.here)))))))) | exact .there (.there (.there (.there (.there (.there (.there (.there (.there (.here))))))))) | exact .there (.there (.there (.there (.there (.there (.there (.there (.there (.there (.here)))))))))) | exact .there (.there (.there (.there (.there (.there (.there (.there (.there (.there (.there (.here))))))))))) | exact .there (.there (.there (.there (.there (.there (.there (.there (.there (.there (.there (.there (.here))))))))))))) (Message.at_keys m)) ⟨rfl, rfl⟩)) ?_
  refine ML.lookG  _ 12 rfl rfl rfl rfl rfl rfl (fun hg15 w hw => (by have hS := hS1.bel hw; exact opW.fieldAddrB rfl ⟨rfl, rfl⟩)) ?_
  refine ML.lookG (E := (.int .u8 (i.program.toNat : Int))) _ 12 rfl rfl rfl rfl rfl rfl (fun hg16 w hw => (by have hS := hS1.bel hw; exact opW.loadV (by first | exact gv_of rfl hg16 | rfl) (hS.ld1 (by first | exact .here | exact .there (.here) | exact .there (.there (.here)) | exact .there (.there (.there (.here))) | exact .there (.there (.there (.there (.here)))) | exact .there (.there (.there (.there (.there (.here))))) | exact .there (.there (.there (.there (.there (.there (.here)))))) | exact .there (.there (.there (.there (.there (.there (.there (.here))))))) | exact .there (.there (.there (.there (.there (.there (.there (.there (.here)))))))) | exact .there (.there (.there (.there (.there (.there (.there (.there (.there (.here))))))))) | exact .there (.there (.there (.there (.there (.there (.there (.there (.there (.there (.here)))))))))) | exact .there (.there (.there (.there (.there (.there (.there (.there (.there (.there (.there (.here))))))))))) | exact .there (.there (.there (.there (.there (.there (.there (.there (.there (.there (.there (.there (.here))))))))))))) (Instr.at_program i)) ⟨rfl, rfl⟩)) ?_
  refine ML.lookG (E := (elemP m.keys.v i.program.toNat (Enc.sz (Vector UInt8 32)))) _ 12 rfl rfl rfl rfl rfl rfl (fun hg17 w hw => (by have hS := hS1.bel hw; have hgx : (i.program.toNat : Int) < (keys.length : Int) := (by simpa using hg17); exact opW.idxV (by first | exact gv_of rfl hg17 | rfl) ((hk.bel hS.old)) (by first | exact gv_of rfl hg17 | rfl) (by omega) (k := .u8) (i := (i.program.toNat : Int)) (v := m.keys.v) ⟨rfl, rfl⟩)) ?_
  refine ML.lookG (E := (.agg (Enc.enc (keys.getD i.program.toNat (vz 32))))) _ 12 rfl rfl rfl rfl rfl rfl (fun hg18 w hw => (by have hS := hS1.bel hw; exact opW.loadV (by first | exact gv_of rfl hg18 | rfl) ((by have h0 : i.program.toNat < keys.length := (by have hgx : (i.program.toNat : Int) < (keys.length : Int) := (by simpa using hg18); omega); have h2 := (hk.bel hS.old).isPt h0; rw [show keys[i.program.toNat] = keys.getD i.program.toNat (vz 32) by simp [List.getD, h0]] at h2; exact h2.ldA (Enc.size_eq _))) ⟨rfl, rfl⟩)) ?_
  refine ML.oneG (.agg (Enc.enc budK)) _ 12 hT.old rfl rfl rfl rfl rfl rfl (fun hg19 => opW.call (refbud_ok _) rfl (fun _ _ h => h)) (fun w hw => ?_)
  replace hT := hT.bel hw
  have hS := hS1.merge hT
  try simp only [List.cons_append, List.nil_append] at hS
  refine ML.lookG (E := (.bool (decide (keys.getD i.program.toNat (vz 32) = budK)))) _ 12 rfl rfl rfl rfl rfl rfl (fun hg20 w hw => (by have hS := hS1.bel hw; exact opW.eqlE (by first | exact gv_of rfl hg20 | rfl) (by first | exact gv_of rfl hg20 | rfl) ⟨rfl, rfl⟩)) ?_
  refine ML.look rfl rfl rfl (fun w hw => (by have hS := hS1.bel hw; exact opW.pickAnd rfl (by first | rfl) rfl ⟨rfl, rfl⟩)) ?_
  refine ML.look rfl rfl rfl (fun w hw => (by have hS := hS1.bel hw; exact opW.assignB rfl ⟨rfl, rfl⟩)) ?_
  refine ML.nil ?_
  refine thenQ_n (hK2 _ _ ?_)
  refine WC.ret ?_
  refine bodyQ_ret (.tmpB rfl .nil) ?_
  exact ⟨congrArg Value.bool (isW_eq keys i.program), hS.old⟩

theorem refof_ok (w0 : World) (m : Message) (keys : List (Vector UInt8 32)) (ins : List Instr) (b : Nat → List UInt8) (hk : SlR w0 m.keys.v keys) (hins : SlR w0 m.instrs.v ins) (hil : ins.length ≤ 1000000) (hb : ∀ i (hi : i < ins.length), SlR w0 (ins[i]'hi).data.v (b i)) : Ret Tryd.prog 11 #[.agg (Enc.enc m)] w0 (fun u w' => u = .agg (Enc.enc (budR (bfold (wAt keys ins) b ins.length))) ∧ Bel w0 w') := by
  refine Ret.enter (args := [.agg (Enc.enc m)]) Tryd.func11 rfl Tryd.ntmps11 Tryd.results11 rfl ?_
  have hS := St.start w0
  refine WC.seq (fun K1 hK1 => ?_)
  refine WC.region ?_
  refine WL.op rfl (opW.boxA hS rfl ?_)
  intro b1 w _ hS
  refine WL.op rfl (opW.allocA hS ?_)
  intro b2 w _ hS
  refine WL.nil ?_
  refine thenQ_n (hK1 _ _ ?_)
  refine WC.seq (fun K2 hK2 => ?_)
  refine WC.region ?_
  refine WL.op rfl (opW.buildE (r := ((Budget.mk 0 0 (-1)) : Budget)) (ps := Budget.parts ((Budget.mk 0 0 (-1)) : Budget)) (Budget.enc_eq _) (by first | rfl | (simp only [sysK, budK, markK, enc_vset, enc_vz, Header.enc_eq, Header.parts, Instr.enc_eq, Instr.parts, Lookup.enc_eq, Lookup.parts, Message.enc_eq, Message.parts, Budget.enc_eq, Budget.parts]; rfl)) (by (repeat' (first | exact trivial | refine And.intro ?_ ?_)) <;> first | rfl | exact Enc.size_eq _ | (simp; done)) ?_)
  refine WL.op rfl (opW.allocA hS ?_)
  intro b3 w _ hS
  refine WL.op0 (opW.storeE hS rfl rfl (by first | exact .here | exact .there (.here) | exact .there (.there (.here)) | exact .there (.there (.there (.here))) | exact .there (.there (.there (.there (.here)))) | exact .there (.there (.there (.there (.there (.here))))) | exact .there (.there (.there (.there (.there (.there (.here)))))) | exact .there (.there (.there (.there (.there (.there (.there (.here))))))) | exact .there (.there (.there (.there (.there (.there (.there (.there (.here)))))))) | exact .there (.there (.there (.there (.there (.there (.there (.there (.there (.here))))))))) | exact .there (.there (.there (.there (.there (.there (.there (.there (.there (.there (.here)))))))))) | exact .there (.there (.there (.there (.there (.there (.there (.there (.there (.there (.there (.here))))))))))) | exact .there (.there (.there (.there (.there (.there (.there (.there (.there (.there (.there (.there (.here))))))))))))) (by first | rfl | exact Enc.size_eq _) ?_)
  intro w hS; replace hS := hS _ (by first | exact .here | exact .there (.here) | exact .there (.there (.here)) | exact .there (.there (.there (.here))) | exact .there (.there (.there (.there (.here)))) | exact .there (.there (.there (.there (.there (.here))))) | exact .there (.there (.there (.there (.there (.there (.here)))))) | exact .there (.there (.there (.there (.there (.there (.there (.here))))))) | exact .there (.there (.there (.there (.there (.there (.there (.there (.here)))))))) | exact .there (.there (.there (.there (.there (.there (.there (.there (.there (.here))))))))) | exact .there (.there (.there (.there (.there (.there (.there (.there (.there (.there (.here)))))))))) | exact .there (.there (.there (.there (.there (.there (.there (.there (.there (.there (.there (.here))))))))))) | exact .there (.there (.there (.there (.there (.there (.there (.there (.there (.there (.there (.there (.here)))))))))))))
  refine WL.nil ?_
  refine thenQ_n (hK2 _ _ ?_)
  refine WC.seq (fun K3 hK3 => ?_)
  refine WC.region ?_
  refine WL.op rfl (opW.assignB rfl ?_)
  refine WL.nil ?_
  refine thenQ_n (hK3 _ _ ?_)
  refine WC.seq (fun K4 hK4 => ?_)
  refine WC.region ?_
  refine WL.op rfl (opW.assignB rfl ?_)
  refine WL.nil ?_
  refine thenQ_n (hK4 _ _ ?_)
  refine WC.seq (fun K5 hK5 => ?_)
  refine WC.region ?_
  refine WL.op rfl (opW.assignI rfl ?_)
  refine WL.nil ?_
  refine thenQ_n (hK5 _ _ ?_)
  refine WC.seq (fun K6 hK6 => ?_)
  refine WC.seq (fun K7 hK7 => ?_)
  refine WC.region ?_
  refine WL.op rfl (opW.assignI rfl ?_)
  refine WL.nil ?_
  refine thenQ_n (hK7 _ _ ?_)
  refine WC.block ?_
  refine WC.loop (fun q f w => ∃ k : Nat, Fits [(1, .pointer (some ⟨b1, 0, none⟩)), (2, .pointer (some ⟨b2, 0, none⟩)), (3, .pointer (some ⟨b3, 0, none⟩)), (4, .bool ((bfold (wAt keys ins) b k).S 0).isSome), (5, .bool ((bfold (wAt keys ins) b k).S 1).isSome), (6, .int .i64 (((bfold (wAt keys ins) b k).others : Nat) : Int)), (7, .int .i64 (k : Int))] f ∧ St w0 [blkE b3 (Enc.enc (Budget.mk (((bfold (wAt keys ins) b k).S 0).getD 0) (((bfold (wAt keys ins) b k).S 1).getD 0) (bfold (wAt keys ins) b k).bad)) 36, blkE b2 (Enc.enc (Budget.mk 0 0 0)) 36, blkE b1 (Enc.enc m) 30] w ∧ k ≤ ins.length ∧ q = ins.length - k) (ins.length) ?_ ?_
  ·
    exact ⟨0, ⟨rfl, rfl, rfl, rfl, rfl, rfl, rfl, trivial⟩, hS, Nat.zero_le _, rfl⟩
  ·
    rintro q f w ⟨k, hfit, hS, hk0, hm⟩
    refine WC.fits _ hfit (fun g => ?_)
    clear hfit
    refine WC.seq (fun K8 hK8 => ?_)
    refine WC.seq (fun K9 hK9 => ?_)
    refine WC.region ?_
    refine WL.op rfl (opW.moveI rfl ?_)
    refine WL.op rfl (opW.fieldAddrB rfl ?_)
    refine WL.op rfl (opW.loadV rfl (hS.ld1 (by first | exact .here | exact .there (.here) | exact .there (.there (.here)) | exact .there (.there (.there (.here))) | exact .there (.there (.there (.there (.here)))) | exact .there (.there (.there (.there (.there (.here))))) | exact .there (.there (.there (.there (.there (.there (.here)))))) | exact .there (.there (.there (.there (.there (.there (.there (.here))))))) | exact .there (.there (.there (.there (.there (.there (.there (.there (.here)))))))) | exact .there (.there (.there (.there (.there (.there (.there (.there (.there (.here))))))))) | exact .there (.there (.there (.there (.there (.there (.there (.there (.there (.there (.here)))))))))) | exact .there (.there (.there (.there (.there (.there (.there (.there (.there (.there (.there (.here))))))))))) | exact .there (.there (.there (.there (.there (.there (.there (.there (.there (.there (.there (.there (.here))))))))))))) (Message.at_instrs m)) ?_)
    refine WL.op rfl (opW.lenV rfl ((hins.bel hS.old)) ?_)
    refine WL.op rfl (opW.lss rfl rfl ?_)
    refine WL.nil ?_
    refine thenQ_n (hK9 _ _ ?_)
    refine WC.cond _ rfl (fun hc0 => ?_) (fun hc0 => ?_)
    ·
      have hr0 := hc0
      try simp only [decide_eq_true_eq, decide_eq_false_iff_not, Bool.and_eq_true, Bool.or_eq_true, Bool.and_eq_false_iff, Bool.or_eq_false_iff, Bool.not_eq_true', Bool.not_eq_false', Int.not_lt, Int.not_le] at hc0
      have hkl : k < ins.length := by omega
      have hoth := bfold_others (wAt keys ins) b k
      obtain ⟨hsok, hbad1⟩ := bfold_ok (wAt keys ins) b k
      have hwk := wAt_eq (keys := keys) hkl
      have hnext : (bfold (wAt keys ins) b (k + 1)) = bstep (bfold (wAt keys ins) b k) k (wAt keys ins k) (b k) := rfl
      have hcp := (hb k hkl).cap
      have hT0 : isT (b k) 0 = true ↔ ((b k).length = 5 ∧ ((b k).getD 0 0).toNat = 2) := by unfold isT longN tagN; simp only [if_true, Bool.and_eq_true, decide_eq_true_eq]
      have hT1 : isT (b k) 1 = true ↔ ((b k).length = 9 ∧ ((b k).getD 0 0).toNat = 3) := by unfold isT longN tagN; simp only [Nat.one_ne_zero, if_false, Bool.and_eq_true, decide_eq_true_eq]
      refine WC.skip ?_
      refine thenQ_n (hK8 _ _ ?_)
      refine WC.mid (fun f w =>  Fits [(1, .pointer (some ⟨b1, 0, none⟩)), (2, .pointer (some ⟨b2, 0, none⟩)), (3, .pointer (some ⟨b3, 0, none⟩)), (4, .bool ((bfold (wAt keys ins) b (k + 1)).S 0).isSome), (5, .bool ((bfold (wAt keys ins) b (k + 1)).S 1).isSome), (6, .int .i64 (((bfold (wAt keys ins) b (k + 1)).others : Nat) : Int)), (7, .int .i64 (k : Int))] f ∧ St w0 [blkE b3 (Enc.enc (Budget.mk (((bfold (wAt keys ins) b (k + 1)).S 0).getD 0) (((bfold (wAt keys ins) b (k + 1)).S 1).getD 0) (bfold (wAt keys ins) b (k + 1)).bad)) 36, blkE b2 (Enc.enc (Budget.mk 0 0 0)) 36, blkE b1 (Enc.enc m) 30] w) ?_ ?_
      ·
        refine WC.block ?_
        refine WC.seq (fun K10 hK10 => ?_)
        refine WC.region ?_
        refine WL.op rfl (opW.fieldAddrB rfl ?_)
        refine WL.op rfl (opW.loadV rfl (hS.ld1 (by first | exact .here | exact .there (.here) | exact .there (.there (.here)) | exact .there (.there (.there (.here))) | exact .there (.there (.there (.there (.here)))) | exact .there (.there (.there (.there (.there (.here))))) | exact .there (.there (.there (.there (.there (.there (.here)))))) | exact .there (.there (.there (.there (.there (.there (.there (.here))))))) | exact .there (.there (.there (.there (.there (.there (.there (.there (.here)))))))) | exact .there (.there (.there (.there (.there (.there (.there (.there (.there (.here))))))))) | exact .there (.there (.there (.there (.there (.there (.there (.there (.there (.there (.here)))))))))) | exact .there (.there (.there (.there (.there (.there (.there (.there (.there (.there (.there (.here))))))))))) | exact .there (.there (.there (.there (.there (.there (.there (.there (.there (.there (.there (.there (.here))))))))))))) (Message.at_instrs m)) ?_)
        refine WL.op rfl (opW.moveI rfl ?_)
        refine WL.op rfl (opW.idxV rfl ((hins.bel hS.old)) rfl (by omega) ?_)
        refine WL.op rfl (opW.loadV rfl (((hins.bel hS.old).isPt hkl).ldA (Enc.size_eq ins[k])) ?_)
        refine WL.op rfl (opW.allocA hS ?_)
        intro b8 w _ hS
        refine WL.op0 (opW.storeE hS rfl rfl (by first | exact .here | exact .there (.here) | exact .there (.there (.here)) | exact .there (.there (.there (.here))) | exact .there (.there (.there (.there (.here)))) | exact .there (.there (.there (.there (.there (.here))))) | exact .there (.there (.there (.there (.there (.there (.here)))))) | exact .there (.there (.there (.there (.there (.there (.there (.here))))))) | exact .there (.there (.there (.there (.there (.there (.there (.there (.here)))))))) | exact .there (.there (.there (.there (.there (.there (.there (.there (.there (.here))))))))) | exact .there (.there (.there (.there (.there (.there (.there (.there (.there (.there (.here)))))))))) | exact .there (.there (.there (.there (.there (.there (.there (.there (.there (.there (.there (.here))))))))))) | exact .there (.there (.there (.there (.there (.there (.there (.there (.there (.there (.there (.there (.here))))))))))))) (by first | rfl | exact Enc.size_eq _) ?_)
        intro w hS; replace hS := hS _ (by first | exact .here | exact .there (.here) | exact .there (.there (.here)) | exact .there (.there (.there (.here))) | exact .there (.there (.there (.there (.here)))) | exact .there (.there (.there (.there (.there (.here))))) | exact .there (.there (.there (.there (.there (.there (.here)))))) | exact .there (.there (.there (.there (.there (.there (.there (.here))))))) | exact .there (.there (.there (.there (.there (.there (.there (.there (.here)))))))) | exact .there (.there (.there (.there (.there (.there (.there (.there (.there (.here))))))))) | exact .there (.there (.there (.there (.there (.there (.there (.there (.there (.there (.here)))))))))) | exact .there (.there (.there (.there (.there (.there (.there (.there (.there (.there (.there (.here))))))))))) | exact .there (.there (.there (.there (.there (.there (.there (.there (.there (.there (.there (.there (.here)))))))))))))
        refine WL.nil ?_
        refine thenQ_n (hK10 _ _ ?_)
        refine WC.seq (fun K11 hK11 => ?_)
        refine WC.seq (fun K12 hK12 => ?_)
        refine WC.region ?_
        refine WL.op rfl (opW.loadV rfl (hS.ldA (cs := Enc.enc m) (by first | exact .here | exact .there (.here) | exact .there (.there (.here)) | exact .there (.there (.there (.here))) | exact .there (.there (.there (.there (.here)))) | exact .there (.there (.there (.there (.there (.here))))) | exact .there (.there (.there (.there (.there (.there (.here)))))) | exact .there (.there (.there (.there (.there (.there (.there (.here))))))) | exact .there (.there (.there (.there (.there (.there (.there (.there (.here)))))))) | exact .there (.there (.there (.there (.there (.there (.there (.there (.there (.here))))))))) | exact .there (.there (.there (.there (.there (.there (.there (.there (.there (.there (.here)))))))))) | exact .there (.there (.there (.there (.there (.there (.there (.there (.there (.there (.there (.here))))))))))) | exact .there (.there (.there (.there (.there (.there (.there (.there (.there (.there (.there (.there (.here))))))))))))) (Enc.size_eq m)) ?_)
        refine WL.op rfl (opW.loadV rfl (hS.ldA (cs := Enc.enc ins[k]) (by first | exact .here | exact .there (.here) | exact .there (.there (.here)) | exact .there (.there (.there (.here))) | exact .there (.there (.there (.there (.here)))) | exact .there (.there (.there (.there (.there (.here))))) | exact .there (.there (.there (.there (.there (.there (.here)))))) | exact .there (.there (.there (.there (.there (.there (.there (.here))))))) | exact .there (.there (.there (.there (.there (.there (.there (.there (.here)))))))) | exact .there (.there (.there (.there (.there (.there (.there (.there (.there (.here))))))))) | exact .there (.there (.there (.there (.there (.there (.there (.there (.there (.there (.here)))))))))) | exact .there (.there (.there (.there (.there (.there (.there (.there (.there (.there (.there (.here))))))))))) | exact .there (.there (.there (.there (.there (.there (.there (.there (.there (.there (.there (.there (.here))))))))))))) (Enc.size_eq _)) ?_)
        refine WL.op rfl (opW.call (refword_ok _ m ins[k] keys (hk.bel hS.old)) rfl ?_)
        rintro _ w ⟨rfl, hw⟩; replace hS := hS.bel hw
        rw [← hwk]
        refine WL.op rfl (opW.not rfl ?_)
        refine WL.nil ?_
        refine thenQ_n (hK12 _ _ ?_)
        refine WC.cond _ rfl (fun hc1 => ?_) (fun hc1 => ?_)
        ·
          have hr1 := hc1
          try simp only [decide_eq_true_eq, decide_eq_false_iff_not, Bool.and_eq_true, Bool.or_eq_true, Bool.and_eq_false_iff, Bool.or_eq_false_iff, Bool.not_eq_true', Bool.not_eq_false', Int.not_lt, Int.not_le] at hc1
          have hwf : wAt keys ins k = false := by simpa using hr1
          rw [hwf, bstep_not] at hnext
          refine WC.seq (fun K13 hK13 => ?_)
          refine WC.region ?_
          refine WL.op rfl (opW.moveI rfl ?_)
          refine WL.op rfl (opW.add rfl rfl (wrap_i64 (by omega)) ?_)
          refine WL.op rfl (opW.assignI rfl ?_)
          refine WL.nil ?_
          refine thenQ_n (hK13 _ _ ?_)
          refine WC.exit ?_
          refine thenQ_e ?_
          refine blockQ_hit ?_
          refine thenQ_n ?_
          rw [hnext]
          exact ⟨⟨rfl, rfl, rfl, (by first | rfl | (rw [hq2]; rfl)), (by first | rfl | (rw [hq2]; rfl)), (by first | rfl | exact congrArg (Value.int .i64) (by simp)), rfl, trivial⟩, hS.drop1⟩
        ·
          have hr1 := hc1
          try simp only [decide_eq_true_eq, decide_eq_false_iff_not, Bool.and_eq_true, Bool.or_eq_true, Bool.and_eq_false_iff, Bool.or_eq_false_iff, Bool.not_eq_true', Bool.not_eq_false', Int.not_lt, Int.not_le] at hc1
          have hwf : wAt keys ins k = true := by simpa using hr1
          rw [hwf] at hnext
          refine WC.skip ?_
          refine thenQ_n (hK11 _ _ ?_)
          refine WC.seq (fun K14 hK14 => ?_)
          refine WC.seq (fun K15 hK15 => ?_)
          refine WC.region ?_
          refine WL.op rfl (opW.fieldAddrB rfl ?_)
          refine WL.op rfl (opW.loadV rfl (hS.ld1 (by first | exact .here | exact .there (.here) | exact .there (.there (.here)) | exact .there (.there (.there (.here))) | exact .there (.there (.there (.there (.here)))) | exact .there (.there (.there (.there (.there (.here))))) | exact .there (.there (.there (.there (.there (.there (.here)))))) | exact .there (.there (.there (.there (.there (.there (.there (.here))))))) | exact .there (.there (.there (.there (.there (.there (.there (.there (.here)))))))) | exact .there (.there (.there (.there (.there (.there (.there (.there (.there (.here))))))))) | exact .there (.there (.there (.there (.there (.there (.there (.there (.there (.there (.here)))))))))) | exact .there (.there (.there (.there (.there (.there (.there (.there (.there (.there (.there (.here))))))))))) | exact .there (.there (.there (.there (.there (.there (.there (.there (.there (.there (.there (.there (.here))))))))))))) (Budget.at_bad _)) ?_)
          refine WL.op rfl (opW.geq rfl rfl ?_)
          refine WL.nil ?_
          refine thenQ_n (hK15 _ _ ?_)
          refine WC.cond _ rfl (fun hc2 => ?_) (fun hc2 => ?_)
          ·
            have hr2 := hc2
            try simp only [decide_eq_true_eq, decide_eq_false_iff_not, Bool.and_eq_true, Bool.or_eq_true, Bool.and_eq_false_iff, Bool.or_eq_false_iff, Bool.not_eq_true', Bool.not_eq_false', Int.not_lt, Int.not_le] at hc2
            rw [bstep_bad (by omega)] at hnext
            refine WC.exit ?_
            refine thenQ_e ?_
            refine blockQ_hit ?_
            refine thenQ_n ?_
            rw [hnext]
            exact ⟨⟨rfl, rfl, rfl, (by first | rfl | (rw [hq2]; rfl)), (by first | rfl | (rw [hq2]; rfl)), (by first | rfl | exact congrArg (Value.int .i64) (by simp)), rfl, trivial⟩, hS.drop1⟩
          ·
            have hr2 := hc2
            try simp only [decide_eq_true_eq, decide_eq_false_iff_not, Bool.and_eq_true, Bool.or_eq_true, Bool.and_eq_false_iff, Bool.or_eq_false_iff, Bool.not_eq_true', Bool.not_eq_false', Int.not_lt, Int.not_le] at hc2
            have hbn : ¬ 0 ≤ (bfold (wAt keys ins) b k).bad := by omega
            refine WC.skip ?_
            refine thenQ_n (hK14 _ _ ?_)
            refine WC.block ?_
            refine WC.seq (fun K16 hK16 => ?_)
            refine WC.region ?_
            refine WL.op rfl (opW.fieldAddrB rfl ?_)
            refine WL.op rfl (opW.loadV rfl (hS.ld1 (by first | exact .here | exact .there (.here) | exact .there (.there (.here)) | exact .there (.there (.there (.here))) | exact .there (.there (.there (.there (.here)))) | exact .there (.there (.there (.there (.there (.here))))) | exact .there (.there (.there (.there (.there (.there (.here)))))) | exact .there (.there (.there (.there (.there (.there (.there (.here))))))) | exact .there (.there (.there (.there (.there (.there (.there (.there (.here)))))))) | exact .there (.there (.there (.there (.there (.there (.there (.there (.there (.here))))))))) | exact .there (.there (.there (.there (.there (.there (.there (.there (.there (.there (.here)))))))))) | exact .there (.there (.there (.there (.there (.there (.there (.there (.there (.there (.there (.here))))))))))) | exact .there (.there (.there (.there (.there (.there (.there (.there (.there (.there (.there (.there (.here))))))))))))) (Instr.at_data _)) ?_)
            refine WL.op rfl (opW.lenV rfl (((hb k hkl).bel hS.old)) ?_)
            refine WL.op rfl (opW.eql rfl rfl ?_)
            refine WL.op rfl (opW.moveB rfl ?_)
            refine WL.gd _ 38 _ rfl rfl rfl rfl (fun hg39 => opW.fieldAddrB rfl ⟨rfl, Bel.refl _⟩) (fun w hw => ?_)
            replace hS := hS.bel hw
            refine WL.gd _ 38 ins[k].data.v rfl rfl rfl rfl (fun hg40 => ?_) (fun w hw => ?_)
            · refine opW.loadV (by first | exact gv_of rfl hg40 | rfl) (hS.ld1 (by first | exact .here | exact .there (.here) | exact .there (.there (.here)) | exact .there (.there (.there (.here))) | exact .there (.there (.there (.there (.here)))) | exact .there (.there (.there (.there (.there (.here))))) | exact .there (.there (.there (.there (.there (.there (.here)))))) | exact .there (.there (.there (.there (.there (.there (.there (.here))))))) | exact .there (.there (.there (.there (.there (.there (.there (.there (.here)))))))) | exact .there (.there (.there (.there (.there (.there (.there (.there (.there (.here))))))))) | exact .there (.there (.there (.there (.there (.there (.there (.there (.there (.there (.here)))))))))) | exact .there (.there (.there (.there (.there (.there (.there (.there (.there (.there (.there (.here))))))))))) | exact .there (.there (.there (.there (.there (.there (.there (.there (.there (.there (.there (.there (.here))))))))))))) (Instr.at_data _)) ⟨rfl, Bel.refl _⟩
            replace hS := hS.bel hw
            refine WL.gd _ 38 (elemP ins[k].data.v 0 1) rfl rfl rfl rfl (fun hg41 => ?_) (fun w hw => ?_)
            · refine (by have hgx : ((b k).length : Int) = 5 := (by simpa using hg41); exact opW.idxV (by first | exact gv_of rfl hg41 | rfl) ((hb k hkl).bel hS.old) rfl (by omega) (k := .i64) (i := 0) (v := ins[k].data.v) ⟨rfl, Bel.refl _⟩)
            replace hS := hS.bel hw
            refine WL.gd _ 38 (.int .u8 (((b k).getD 0 0).toNat : Int)) rfl rfl rfl rfl (fun hg42 => ?_) (fun w hw => ?_)
            · refine opW.loadV (by first | exact gv_of rfl hg42 | rfl) ((by have h0 : 0 < (b k).length := (by have hgx : ((b k).length : Int) = 5 := (by simpa using hg42); omega); have h2 := ((hb k hkl).bel hS.old).isPt h0; rw [getD_zero h0] at h2; exact h2.ld rfl)) ⟨rfl, Bel.refl _⟩
            replace hS := hS.bel hw
            refine WL.gd _ 38 _ rfl rfl rfl rfl (fun hg43 => opW.eql (by first | exact gv_of rfl hg43 | rfl) rfl ⟨rfl, Bel.refl _⟩) (fun w hw => ?_)
            replace hS := hS.bel hw
            refine WL.op rfl (opW.pickAnd rfl (by first | rfl) rfl ?_)
            refine WL.op rfl (opW.moveB rfl ?_)
            refine WL.gd _ 45 _ rfl rfl rfl rfl (fun hg46 => opW.moveB rfl ⟨rfl, Bel.refl _⟩) (fun w hw => ?_)
            replace hS := hS.bel hw
            refine WL.gd _ 45 _ rfl rfl rfl rfl (fun hg47 => opW.not (by first | exact gv_of rfl hg47 | rfl) ⟨rfl, Bel.refl _⟩) (fun w hw => ?_)
            replace hS := hS.bel hw
            refine WL.op rfl (opW.pickAnd rfl (by first | rfl) rfl ?_)
            refine WL.op rfl (opW.assignB rfl ?_)
            refine WL.nil ?_
            refine thenQ_n (hK16 _ _ ?_)
            refine WC.cond _ rfl (fun hc3 => ?_) (fun hc3 => ?_)
            ·
              have hr3 := hc3
              try simp only [decide_eq_true_eq, decide_eq_false_iff_not, Bool.and_eq_true, Bool.or_eq_true, Bool.and_eq_false_iff, Bool.or_eq_false_iff, Bool.not_eq_true', Bool.not_eq_false', Int.not_lt, Int.not_le] at hc3
              have hq : ((b k).length = 5 ∧ ((b k).getD 0 0).toNat = 2) ∧ ((bfold (wAt keys ins) b k).S 0).isSome = false := by
                have := hr3
                simp only [Bool.and_eq_true, decide_eq_true_eq, Bool.not_eq_true'] at this
                obtain ⟨⟨h1, h2⟩, h3⟩ := this
                exact ⟨⟨by omega, by omega⟩, h3⟩
              obtain ⟨hq1, hq2⟩ := hq
              have htr : toldR (b k) = (((0 : Nat) : Int), getT (b k) 0) := toldR_hit (k := 0) (by decide) (fun j hj => absurd hj (Nat.not_lt_zero _)) (hT0.2 hq1)
              have hlen := hq1.1
              rw [bstep_set hbn htr hq2] at hnext
              refine WC.seq (fun K17 hK17 => ?_)
              refine WC.region ?_
              refine WL.op rfl (opW.fieldAddrB rfl ?_)
              refine WL.op rfl (opW.loadV rfl (hS.ld1 (by first | exact .here | exact .there (.here) | exact .there (.there (.here)) | exact .there (.there (.there (.here))) | exact .there (.there (.there (.there (.here)))) | exact .there (.there (.there (.there (.there (.here))))) | exact .there (.there (.there (.there (.there (.there (.here)))))) | exact .there (.there (.there (.there (.there (.there (.there (.here))))))) | exact .there (.there (.there (.there (.there (.there (.there (.there (.here)))))))) | exact .there (.there (.there (.there (.there (.there (.there (.there (.there (.here))))))))) | exact .there (.there (.there (.there (.there (.there (.there (.there (.there (.there (.here)))))))))) | exact .there (.there (.there (.there (.there (.there (.there (.there (.there (.there (.there (.here))))))))))) | exact .there (.there (.there (.there (.there (.there (.there (.there (.there (.there (.there (.there (.here))))))))))))) (Instr.at_data _)) ?_)
              refine WL.op rfl (opW.cutS (l := 1) (h' := (b k).length) (m := capV ins[k].data.v) ((hb k hkl).bel hS.old) ⟨rfl, Nat.le_refl _⟩ ⟨⟨rfl, rfl⟩, hcp⟩ ⟨⟨_, rfl⟩, by omega⟩ ?_)
              refine WL.op rfl (opW.call (ref_get _ (cutV ins[k].data.v 1 (b k).length (capV ins[k].data.v) (Enc.sz UInt8)) ((b k).drop 1) 4 (by have h := ((hb k hkl).bel hS.old).cut (l := 1) (h := (b k).length) (m := capV ins[k].data.v) (by omega) (Nat.le_refl _) hcp (Nat.le_refl _); rw [List.take_length] at h; exact h)) rfl ?_)
              rintro _ w ⟨rfl, hw⟩; replace hS := hS.bel hw
              rw [show getR ((b k).drop 1) 4 = (getT (b k) 0, 0) from getR_ok (m := 4) (by decide) (by decide) (by rw [List.length_drop]; omega)]
              refine WL.op rfl (opW.moveV (v := .tuple #[.int .u64 ((getT (b k) 0 : Nat) : Int), .int .i64 0]) rfl ?_)
              refine WL.op rfl (opW.extract rfl rfl ?_)
              refine WL.op rfl (opW.extract rfl rfl ?_)
              refine WL.op rfl (opW.fieldAddrB rfl ?_)
              refine WL.op0 (opW.storeF (v := .int .u64 ((getT (b k) 0 : Nat) : Int)) (sz := 1) (cs' := Enc.enc (Budget.mk (getT (b k) 0) (((bfold (wAt keys ins) b k).S 1).getD 0) (bfold (wAt keys ins) b k).bad)) hS rfl rfl (by first | exact .here | exact .there (.here) | exact .there (.there (.here)) | exact .there (.there (.there (.here))) | exact .there (.there (.there (.there (.here)))) | exact .there (.there (.there (.there (.there (.here))))) | exact .there (.there (.there (.there (.there (.there (.here)))))) | exact .there (.there (.there (.there (.there (.there (.there (.here))))))) | exact .there (.there (.there (.there (.there (.there (.there (.there (.here)))))))) | exact .there (.there (.there (.there (.there (.there (.there (.there (.there (.here))))))))) | exact .there (.there (.there (.there (.there (.there (.there (.there (.there (.there (.here)))))))))) | exact .there (.there (.there (.there (.there (.there (.there (.there (.there (.there (.there (.here))))))))))) | exact .there (.there (.there (.there (.there (.there (.there (.there (.there (.there (.there (.there (.here))))))))))))) rfl (by rw [Enc.size_eq]; decide) (one_int _ _) (Budget.set_units (Budget.mk (((bfold (wAt keys ins) b k).S 0).getD 0) (((bfold (wAt keys ins) b k).S 1).getD 0) (bfold (wAt keys ins) b k).bad) _) ?_)
              intro w hS; replace hS := hS _ (by first | exact .here | exact .there (.here) | exact .there (.there (.here)) | exact .there (.there (.there (.here))) | exact .there (.there (.there (.there (.here)))) | exact .there (.there (.there (.there (.there (.here))))) | exact .there (.there (.there (.there (.there (.there (.here)))))) | exact .there (.there (.there (.there (.there (.there (.there (.here))))))) | exact .there (.there (.there (.there (.there (.there (.there (.there (.here)))))))) | exact .there (.there (.there (.there (.there (.there (.there (.there (.there (.here))))))))) | exact .there (.there (.there (.there (.there (.there (.there (.there (.there (.there (.here)))))))))) | exact .there (.there (.there (.there (.there (.there (.there (.there (.there (.there (.there (.here))))))))))) | exact .there (.there (.there (.there (.there (.there (.there (.there (.there (.there (.there (.there (.here)))))))))))))
              refine WL.nil ?_
              refine thenQ_n (hK17 _ _ ?_)
              refine WC.region ?_
              refine WL.op rfl (opW.assignB rfl ?_)
              refine WL.nil ?_
              refine blockQ_n ?_
              refine blockQ_n ?_
              refine thenQ_n ?_
              rw [hnext]
              exact ⟨⟨rfl, rfl, rfl, (by first | rfl | (rw [hq2]; rfl)), (by first | rfl | (rw [hq2]; rfl)), (by first | rfl | exact congrArg (Value.int .i64) (by simp)), rfl, trivial⟩, hS.drop1⟩
            ·
              have hr3 := hc3
              try simp only [decide_eq_true_eq, decide_eq_false_iff_not, Bool.and_eq_true, Bool.or_eq_true, Bool.and_eq_false_iff, Bool.or_eq_false_iff, Bool.not_eq_true', Bool.not_eq_false', Int.not_lt, Int.not_le] at hc3
              have hn3 : isT (b k) 0 = true → ((bfold (wAt keys ins) b k).S 0).isSome = true := by
                intro h
                obtain ⟨h1, h2⟩ := hT0.1 h
                cases hc : ((bfold (wAt keys ins) b k).S 0).isSome with
                | true => rfl
                | false =>
                  rw [hc, decide_eq_true (show ((b k).length : Int) = 5 by omega), decide_eq_true (show ((((b k).getD 0 0).toNat : Nat) : Int) = 2 by omega)] at hr3
                  cases hr3
              refine WC.seq (fun K18 hK18 => ?_)
              refine WC.region ?_
              refine WL.op rfl (opW.fieldAddrB rfl ?_)
              refine WL.op rfl (opW.loadV rfl (hS.ld1 (by first | exact .here | exact .there (.here) | exact .there (.there (.here)) | exact .there (.there (.there (.here))) | exact .there (.there (.there (.there (.here)))) | exact .there (.there (.there (.there (.there (.here))))) | exact .there (.there (.there (.there (.there (.there (.here)))))) | exact .there (.there (.there (.there (.there (.there (.there (.here))))))) | exact .there (.there (.there (.there (.there (.there (.there (.there (.here)))))))) | exact .there (.there (.there (.there (.there (.there (.there (.there (.there (.here))))))))) | exact .there (.there (.there (.there (.there (.there (.there (.there (.there (.there (.here)))))))))) | exact .there (.there (.there (.there (.there (.there (.there (.there (.there (.there (.there (.here))))))))))) | exact .there (.there (.there (.there (.there (.there (.there (.there (.there (.there (.there (.there (.here))))))))))))) (Instr.at_data _)) ?_)
              refine WL.op rfl (opW.lenV rfl (((hb k hkl).bel hS.old)) ?_)
              refine WL.op rfl (opW.eql rfl rfl ?_)
              refine WL.op rfl (opW.moveB rfl ?_)
              refine WL.gd _ 62 _ rfl rfl rfl rfl (fun hg63 => opW.fieldAddrB rfl ⟨rfl, Bel.refl _⟩) (fun w hw => ?_)
              replace hS := hS.bel hw
              refine WL.gd _ 62 ins[k].data.v rfl rfl rfl rfl (fun hg64 => ?_) (fun w hw => ?_)
              · refine opW.loadV (by first | exact gv_of rfl hg64 | rfl) (hS.ld1 (by first | exact .here | exact .there (.here) | exact .there (.there (.here)) | exact .there (.there (.there (.here))) | exact .there (.there (.there (.there (.here)))) | exact .there (.there (.there (.there (.there (.here))))) | exact .there (.there (.there (.there (.there (.there (.here)))))) | exact .there (.there (.there (.there (.there (.there (.there (.here))))))) | exact .there (.there (.there (.there (.there (.there (.there (.there (.here)))))))) | exact .there (.there (.there (.there (.there (.there (.there (.there (.there (.here))))))))) | exact .there (.there (.there (.there (.there (.there (.there (.there (.there (.there (.here)))))))))) | exact .there (.there (.there (.there (.there (.there (.there (.there (.there (.there (.there (.here))))))))))) | exact .there (.there (.there (.there (.there (.there (.there (.there (.there (.there (.there (.there (.here))))))))))))) (Instr.at_data _)) ⟨rfl, Bel.refl _⟩
              replace hS := hS.bel hw
              refine WL.gd _ 62 (elemP ins[k].data.v 0 1) rfl rfl rfl rfl (fun hg65 => ?_) (fun w hw => ?_)
              · refine (by have hgx : ((b k).length : Int) = 9 := (by simpa using hg65); exact opW.idxV (by first | exact gv_of rfl hg65 | rfl) ((hb k hkl).bel hS.old) rfl (by omega) (k := .i64) (i := 0) (v := ins[k].data.v) ⟨rfl, Bel.refl _⟩)
              replace hS := hS.bel hw
              refine WL.gd _ 62 (.int .u8 (((b k).getD 0 0).toNat : Int)) rfl rfl rfl rfl (fun hg66 => ?_) (fun w hw => ?_)
              · refine opW.loadV (by first | exact gv_of rfl hg66 | rfl) ((by have h0 : 0 < (b k).length := (by have hgx : ((b k).length : Int) = 9 := (by simpa using hg66); omega); have h2 := ((hb k hkl).bel hS.old).isPt h0; rw [getD_zero h0] at h2; exact h2.ld rfl)) ⟨rfl, Bel.refl _⟩
              replace hS := hS.bel hw
              refine WL.gd _ 62 _ rfl rfl rfl rfl (fun hg67 => opW.eql (by first | exact gv_of rfl hg67 | rfl) rfl ⟨rfl, Bel.refl _⟩) (fun w hw => ?_)
              replace hS := hS.bel hw
              refine WL.op rfl (opW.pickAnd rfl (by first | rfl) rfl ?_)
              refine WL.op rfl (opW.moveB rfl ?_)
              refine WL.gd _ 69 _ rfl rfl rfl rfl (fun hg70 => opW.moveB rfl ⟨rfl, Bel.refl _⟩) (fun w hw => ?_)
              replace hS := hS.bel hw
              refine WL.gd _ 69 _ rfl rfl rfl rfl (fun hg71 => opW.not (by first | exact gv_of rfl hg71 | rfl) ⟨rfl, Bel.refl _⟩) (fun w hw => ?_)
              replace hS := hS.bel hw
              refine WL.op rfl (opW.pickAnd rfl (by first | rfl) rfl ?_)
              refine WL.op rfl (opW.assignB rfl ?_)
              refine WL.nil ?_
              refine thenQ_n (hK18 _ _ ?_)
              refine WC.cond _ rfl (fun hc4 => ?_) (fun hc4 => ?_)
              ·
                have hr4 := hc4
                try simp only [decide_eq_true_eq, decide_eq_false_iff_not, Bool.and_eq_true, Bool.or_eq_true, Bool.and_eq_false_iff, Bool.or_eq_false_iff, Bool.not_eq_true', Bool.not_eq_false', Int.not_lt, Int.not_le] at hc4
                have hq : ((b k).length = 9 ∧ ((b k).getD 0 0).toNat = 3) ∧ ((bfold (wAt keys ins) b k).S 1).isSome = false := by
                  have := hr4
                  simp only [Bool.and_eq_true, decide_eq_true_eq, Bool.not_eq_true'] at this
                  obtain ⟨⟨h1, h2⟩, h3⟩ := this
                  exact ⟨⟨by omega, by omega⟩, h3⟩
                obtain ⟨hq1, hq2⟩ := hq
                have hn0 : isT (b k) 0 = false := by
                  cases h : isT (b k) 0 with
                  | false => rfl
                  | true => have := hT0.1 h; omega
                have htr : toldR (b k) = (((1 : Nat) : Int), getT (b k) 1) := toldR_hit (k := 1) (by decide) (fun j hj => (show j = 0 by omega) ▸ hn0) (hT1.2 hq1)
                have hlen := hq1.1
                rw [bstep_set hbn htr hq2] at hnext
                refine WC.seq (fun K19 hK19 => ?_)
                refine WC.region ?_
                refine WL.op rfl (opW.fieldAddrB rfl ?_)
                refine WL.op rfl (opW.loadV rfl (hS.ld1 (by first | exact .here | exact .there (.here) | exact .there (.there (.here)) | exact .there (.there (.there (.here))) | exact .there (.there (.there (.there (.here)))) | exact .there (.there (.there (.there (.there (.here))))) | exact .there (.there (.there (.there (.there (.there (.here)))))) | exact .there (.there (.there (.there (.there (.there (.there (.here))))))) | exact .there (.there (.there (.there (.there (.there (.there (.there (.here)))))))) | exact .there (.there (.there (.there (.there (.there (.there (.there (.there (.here))))))))) | exact .there (.there (.there (.there (.there (.there (.there (.there (.there (.there (.here)))))))))) | exact .there (.there (.there (.there (.there (.there (.there (.there (.there (.there (.there (.here))))))))))) | exact .there (.there (.there (.there (.there (.there (.there (.there (.there (.there (.there (.there (.here))))))))))))) (Instr.at_data _)) ?_)
                refine WL.op rfl (opW.cutS (l := 1) (h' := (b k).length) (m := capV ins[k].data.v) ((hb k hkl).bel hS.old) ⟨rfl, Nat.le_refl _⟩ ⟨⟨rfl, rfl⟩, hcp⟩ ⟨⟨_, rfl⟩, by omega⟩ ?_)
                refine WL.op rfl (opW.call (ref_get _ (cutV ins[k].data.v 1 (b k).length (capV ins[k].data.v) (Enc.sz UInt8)) ((b k).drop 1) 8 (by have h := ((hb k hkl).bel hS.old).cut (l := 1) (h := (b k).length) (m := capV ins[k].data.v) (by omega) (Nat.le_refl _) hcp (Nat.le_refl _); rw [List.take_length] at h; exact h)) rfl ?_)
                rintro _ w ⟨rfl, hw⟩; replace hS := hS.bel hw
                rw [show getR ((b k).drop 1) 8 = (getT (b k) 1, 0) from getR_ok (m := 8) (by decide) (by decide) (by rw [List.length_drop]; omega)]
                refine WL.op rfl (opW.moveV (v := .tuple #[.int .u64 ((getT (b k) 1 : Nat) : Int), .int .i64 0]) rfl ?_)
                refine WL.op rfl (opW.extract rfl rfl ?_)
                refine WL.op rfl (opW.extract rfl rfl ?_)
                refine WL.op rfl (opW.fieldAddrB rfl ?_)
                refine WL.op0 (opW.storeF (v := .int .u64 ((getT (b k) 1 : Nat) : Int)) (sz := 1) (cs' := Enc.enc (Budget.mk (((bfold (wAt keys ins) b k).S 0).getD 0) (getT (b k) 1) (bfold (wAt keys ins) b k).bad)) hS rfl rfl (by first | exact .here | exact .there (.here) | exact .there (.there (.here)) | exact .there (.there (.there (.here))) | exact .there (.there (.there (.there (.here)))) | exact .there (.there (.there (.there (.there (.here))))) | exact .there (.there (.there (.there (.there (.there (.here)))))) | exact .there (.there (.there (.there (.there (.there (.there (.here))))))) | exact .there (.there (.there (.there (.there (.there (.there (.there (.here)))))))) | exact .there (.there (.there (.there (.there (.there (.there (.there (.there (.here))))))))) | exact .there (.there (.there (.there (.there (.there (.there (.there (.there (.there (.here)))))))))) | exact .there (.there (.there (.there (.there (.there (.there (.there (.there (.there (.there (.here))))))))))) | exact .there (.there (.there (.there (.there (.there (.there (.there (.there (.there (.there (.there (.here))))))))))))) rfl (by rw [Enc.size_eq]; decide) (one_int _ _) (Budget.set_price (Budget.mk (((bfold (wAt keys ins) b k).S 0).getD 0) (((bfold (wAt keys ins) b k).S 1).getD 0) (bfold (wAt keys ins) b k).bad) _) ?_)
                intro w hS; replace hS := hS _ (by first | exact .here | exact .there (.here) | exact .there (.there (.here)) | exact .there (.there (.there (.here))) | exact .there (.there (.there (.there (.here)))) | exact .there (.there (.there (.there (.there (.here))))) | exact .there (.there (.there (.there (.there (.there (.here)))))) | exact .there (.there (.there (.there (.there (.there (.there (.here))))))) | exact .there (.there (.there (.there (.there (.there (.there (.there (.here)))))))) | exact .there (.there (.there (.there (.there (.there (.there (.there (.there (.here))))))))) | exact .there (.there (.there (.there (.there (.there (.there (.there (.there (.there (.here)))))))))) | exact .there (.there (.there (.there (.there (.there (.there (.there (.there (.there (.there (.here))))))))))) | exact .there (.there (.there (.there (.there (.there (.there (.there (.there (.there (.there (.there (.here)))))))))))))
                refine WL.nil ?_
                refine thenQ_n (hK19 _ _ ?_)
                refine WC.region ?_
                refine WL.op rfl (opW.assignB rfl ?_)
                refine WL.nil ?_
                refine blockQ_n ?_
                refine blockQ_n ?_
                refine thenQ_n ?_
                rw [hnext]
                exact ⟨⟨rfl, rfl, rfl, (by first | rfl | (rw [hq2]; rfl)), (by first | rfl | (rw [hq2]; rfl)), (by first | rfl | exact congrArg (Value.int .i64) (by simp)), rfl, trivial⟩, hS.drop1⟩
              ·
                have hr4 := hc4
                try simp only [decide_eq_true_eq, decide_eq_false_iff_not, Bool.and_eq_true, Bool.or_eq_true, Bool.and_eq_false_iff, Bool.or_eq_false_iff, Bool.not_eq_true', Bool.not_eq_false', Int.not_lt, Int.not_le] at hc4
                have hn4 : isT (b k) 1 = true → ((bfold (wAt keys ins) b k).S 1).isSome = true := by
                  intro h
                  obtain ⟨h1, h2⟩ := hT1.1 h
                  cases hc : ((bfold (wAt keys ins) b k).S 1).isSome with
                  | true => rfl
                  | false =>
                    rw [hc, decide_eq_true (show ((b k).length : Int) = 9 by omega), decide_eq_true (show ((((b k).getD 0 0).toNat : Nat) : Int) = 3 by omega)] at hr4
                    cases hr4
                have hbad : (toldR (b k)).1 < 0 ∨ ((bfold (wAt keys ins) b k).S (toldR (b k)).1.toNat).isSome = true := by
                  unfold toldR
                  split
                  · rename_i h; exact .inr (hn3 h)
                  · split
                    · rename_i h; exact .inr (hn4 h)
                    · exact .inl (by decide)
                rw [bstep_new (kd := (toldR (b k)).1) (nn := (toldR (b k)).2) hbn rfl hbad] at hnext
                refine WC.region ?_
                refine WL.op rfl (opW.moveI rfl ?_)
                refine WL.op rfl (opW.fieldAddrB rfl ?_)
                refine WL.op0 (opW.storeF (v := .int .i64 (k : Int)) (sz := 1) (cs' := Enc.enc (Budget.mk (((bfold (wAt keys ins) b k).S 0).getD 0) (((bfold (wAt keys ins) b k).S 1).getD 0) (k : Int))) hS rfl rfl (by first | exact .here | exact .there (.here) | exact .there (.there (.here)) | exact .there (.there (.there (.here))) | exact .there (.there (.there (.there (.here)))) | exact .there (.there (.there (.there (.there (.here))))) | exact .there (.there (.there (.there (.there (.there (.here)))))) | exact .there (.there (.there (.there (.there (.there (.there (.here))))))) | exact .there (.there (.there (.there (.there (.there (.there (.there (.here)))))))) | exact .there (.there (.there (.there (.there (.there (.there (.there (.there (.here))))))))) | exact .there (.there (.there (.there (.there (.there (.there (.there (.there (.there (.here)))))))))) | exact .there (.there (.there (.there (.there (.there (.there (.there (.there (.there (.there (.here))))))))))) | exact .there (.there (.there (.there (.there (.there (.there (.there (.there (.there (.there (.there (.here))))))))))))) rfl (by rw [Enc.size_eq]; decide) (one_int _ _) (Budget.set_bad (Budget.mk (((bfold (wAt keys ins) b k).S 0).getD 0) (((bfold (wAt keys ins) b k).S 1).getD 0) (bfold (wAt keys ins) b k).bad) _) ?_)
                intro w hS; replace hS := hS _ (by first | exact .here | exact .there (.here) | exact .there (.there (.here)) | exact .there (.there (.there (.here))) | exact .there (.there (.there (.there (.here)))) | exact .there (.there (.there (.there (.there (.here))))) | exact .there (.there (.there (.there (.there (.there (.here)))))) | exact .there (.there (.there (.there (.there (.there (.there (.here))))))) | exact .there (.there (.there (.there (.there (.there (.there (.there (.here)))))))) | exact .there (.there (.there (.there (.there (.there (.there (.there (.there (.here))))))))) | exact .there (.there (.there (.there (.there (.there (.there (.there (.there (.there (.here)))))))))) | exact .there (.there (.there (.there (.there (.there (.there (.there (.there (.there (.there (.here))))))))))) | exact .there (.there (.there (.there (.there (.there (.there (.there (.there (.there (.there (.there (.here)))))))))))))
                refine WL.nil ?_
                refine blockQ_n ?_
                refine blockQ_n ?_
                refine thenQ_n ?_
                rw [hnext]
                exact ⟨⟨rfl, rfl, rfl, (by first | rfl | (rw [hq2]; rfl)), (by first | rfl | (rw [hq2]; rfl)), (by first | rfl | exact congrArg (Value.int .i64) (by simp)), rfl, trivial⟩, hS.drop1⟩
      ·
        rintro f w ⟨hfit, hS⟩
        refine WC.fits _ hfit (fun g => ?_)
        clear hfit
        refine WC.region ?_
        refine WL.op rfl (opW.moveI rfl ?_)
        refine WL.op rfl (opW.add rfl rfl (wrap_i64 (by omega)) ?_)
        refine WL.op rfl (opW.assignI rfl ?_)
        refine WL.nil ?_
        refine thenQ_n ?_
        exact ⟨ins.length - (k + 1), by omega, k + 1, ⟨rfl, rfl, rfl, rfl, rfl, rfl, congrArg (Value.int .i64) (by omega), trivial⟩, hS, by omega, rfl⟩
    ·
      have hr0 := hc0
      try simp only [decide_eq_true_eq, decide_eq_false_iff_not, Bool.and_eq_true, Bool.or_eq_true, Bool.and_eq_false_iff, Bool.or_eq_false_iff, Bool.not_eq_true', Bool.not_eq_false', Int.not_lt, Int.not_le] at hc0
      obtain rfl : k = ins.length := by omega
      have hoth := bfold_others (wAt keys ins) b ins.length
      obtain ⟨hsok, hbad1⟩ := bfold_ok (wAt keys ins) b ins.length
      generalize (bfold (wAt keys ins) b ins.length) = s at *
      have hl : ∀ j, (s.S j).getD 0 < 18446744073709551616 := by
        intro j
        cases hj : s.S j with
        | none => decide
        | some n => exact hsok j n hj
      have hl0 := hl 0
      have hl1 := hl 1
      have hun : ∀ x : Nat, (!(s.S 0).isSome) = true → x = (s.S 0).getD x := by
        intro x h
        cases hj : s.S 0 with
        | none => rfl
        | some n => rw [hj] at h; cases h
      have hun2 : (!(s.S 0).isSome) = false → (s.S 0).getD 0 = (s.S 0).getD (s.others * 200000) := by
        intro h
        cases hj : s.S 0 with
        | none => rw [hj] at h; cases h
        | some n => rfl
      refine WC.exit ?_
      refine thenQ_e ?_
      refine thenQ_e ?_
      refine blockQ_hit ?_
      refine thenQ_n (hK6 _ _ ?_)
      refine WC.mid (fun f w => ∃ u : Nat, Fits [(2, .pointer (some ⟨b2, 0, none⟩)), (3, .pointer (some ⟨b3, 0, none⟩))] f ∧ St w0 [blkE b3 (Enc.enc (Budget.mk u ((s.S 1).getD 0) s.bad)) 36, blkE b2 (Enc.enc (Budget.mk 0 0 0)) 36] w ∧ u = (s.S 0).getD (s.others * 200000) ∧ u < 18446744073709551616) ?_ ?_
      ·
        refine WC.seq (fun K20 hK20 => ?_)
        refine WC.region ?_
        refine WL.op rfl (opW.moveB rfl ?_)
        refine WL.op rfl (opW.not rfl ?_)
        refine WL.nil ?_
        refine thenQ_n (hK20 _ _ ?_)
        refine WC.cond _ rfl (fun hc5 => ?_) (fun hc5 => ?_)
        ·
          have hr5 := hc5
          try simp only [decide_eq_true_eq, decide_eq_false_iff_not, Bool.and_eq_true, Bool.or_eq_true, Bool.and_eq_false_iff, Bool.or_eq_false_iff, Bool.not_eq_true', Bool.not_eq_false', Int.not_lt, Int.not_le] at hc5
          refine WC.region ?_
          refine WL.op rfl (opW.moveI rfl ?_)
          refine WL.op rfl (opW.conv rfl (wrap_u64 (by omega)) ?_)
          refine WL.op rfl (opW.mul rfl rfl (nmul (b := 200000) (by omega)) ?_)
          refine WL.op rfl (opW.fieldAddrB rfl ?_)
          refine WL.op0 (opW.storeF (v := .int .u64 ((s.others * 200000 : Nat) : Int)) (sz := 1) (cs' := Enc.enc (Budget.mk (s.others * 200000) ((s.S 1).getD 0) s.bad)) hS rfl rfl (by first | exact .here | exact .there (.here) | exact .there (.there (.here)) | exact .there (.there (.there (.here))) | exact .there (.there (.there (.there (.here)))) | exact .there (.there (.there (.there (.there (.here))))) | exact .there (.there (.there (.there (.there (.there (.here)))))) | exact .there (.there (.there (.there (.there (.there (.there (.here))))))) | exact .there (.there (.there (.there (.there (.there (.there (.there (.here)))))))) | exact .there (.there (.there (.there (.there (.there (.there (.there (.there (.here))))))))) | exact .there (.there (.there (.there (.there (.there (.there (.there (.there (.there (.here)))))))))) | exact .there (.there (.there (.there (.there (.there (.there (.there (.there (.there (.there (.here))))))))))) | exact .there (.there (.there (.there (.there (.there (.there (.there (.there (.there (.there (.there (.here))))))))))))) rfl (by rw [Enc.size_eq]; decide) (one_int _ _) (Budget.set_units (Budget.mk ((s.S 0).getD 0) ((s.S 1).getD 0) s.bad) _) ?_)
          intro w hS; replace hS := hS _ (by first | exact .here | exact .there (.here) | exact .there (.there (.here)) | exact .there (.there (.there (.here))) | exact .there (.there (.there (.there (.here)))) | exact .there (.there (.there (.there (.there (.here))))) | exact .there (.there (.there (.there (.there (.there (.here)))))) | exact .there (.there (.there (.there (.there (.there (.there (.here))))))) | exact .there (.there (.there (.there (.there (.there (.there (.there (.here)))))))) | exact .there (.there (.there (.there (.there (.there (.there (.there (.there (.here))))))))) | exact .there (.there (.there (.there (.there (.there (.there (.there (.there (.there (.here)))))))))) | exact .there (.there (.there (.there (.there (.there (.there (.there (.there (.there (.there (.here))))))))))) | exact .there (.there (.there (.there (.there (.there (.there (.there (.there (.there (.there (.there (.here)))))))))))))
          refine WL.nil ?_
          refine thenQ_n ?_
          first | exact ⟨s.others * 200000, ⟨rfl, rfl, trivial⟩, hS.sub (by repeat (first | with_reducible exact List.nil_sublist _ | with_reducible exact List.Sublist.refl _ | with_reducible refine List.Sublist.cons₂ _ ?_ | with_reducible refine List.Sublist.cons _ ?_)), hun _ hr5, by omega⟩ | exact ⟨(s.S 0).getD 0, ⟨rfl, rfl, trivial⟩, hS.sub (by repeat (first | with_reducible exact List.nil_sublist _ | with_reducible exact List.Sublist.refl _ | with_reducible refine List.Sublist.cons₂ _ ?_ | with_reducible refine List.Sublist.cons _ ?_)), hun2 hr5, hl0⟩
        ·
          have hr5 := hc5
          try simp only [decide_eq_true_eq, decide_eq_false_iff_not, Bool.and_eq_true, Bool.or_eq_true, Bool.and_eq_false_iff, Bool.or_eq_false_iff, Bool.not_eq_true', Bool.not_eq_false', Int.not_lt, Int.not_le] at hc5
          refine WC.skip ?_
          refine thenQ_n ?_
          first | exact ⟨s.others * 200000, ⟨rfl, rfl, trivial⟩, hS.sub (by repeat (first | with_reducible exact List.nil_sublist _ | with_reducible exact List.Sublist.refl _ | with_reducible refine List.Sublist.cons₂ _ ?_ | with_reducible refine List.Sublist.cons _ ?_)), hun _ hr5, by omega⟩ | exact ⟨(s.S 0).getD 0, ⟨rfl, rfl, trivial⟩, hS.sub (by repeat (first | with_reducible exact List.nil_sublist _ | with_reducible exact List.Sublist.refl _ | with_reducible refine List.Sublist.cons₂ _ ?_ | with_reducible refine List.Sublist.cons _ ?_)), hun2 hr5, hl0⟩
      ·
        rintro f w ⟨u, hfit, hS, hu, hul⟩
        refine WC.fits _ hfit (fun g => ?_)
        clear hfit
        refine WC.mid (fun f w => ∃ u2 : Nat, Fits [(2, .pointer (some ⟨b2, 0, none⟩)), (3, .pointer (some ⟨b3, 0, none⟩))] f ∧ St w0 [blkE b3 (Enc.enc (Budget.mk u2 ((s.S 1).getD 0) s.bad)) 36, blkE b2 (Enc.enc (Budget.mk 0 0 0)) 36] w ∧ u2 = min u 1400000) ?_ ?_
        ·
          refine WC.seq (fun K21 hK21 => ?_)
          refine WC.region ?_
          have hmr : (1400000 : Int) < (u : Int) → 1400000 = min u 1400000 := fun h => (Nat.min_eq_right (by omega)).symm
          have hml : ¬ (1400000 : Int) < (u : Int) → u = min u 1400000 := fun h => (Nat.min_eq_left (by omega)).symm
          refine WL.op rfl (opW.fieldAddrB rfl ?_)
          refine WL.op rfl (opW.loadV rfl (hS.ld1 (by first | exact .here | exact .there (.here) | exact .there (.there (.here)) | exact .there (.there (.there (.here))) | exact .there (.there (.there (.there (.here)))) | exact .there (.there (.there (.there (.there (.here))))) | exact .there (.there (.there (.there (.there (.there (.here)))))) | exact .there (.there (.there (.there (.there (.there (.there (.here))))))) | exact .there (.there (.there (.there (.there (.there (.there (.there (.here)))))))) | exact .there (.there (.there (.there (.there (.there (.there (.there (.there (.here))))))))) | exact .there (.there (.there (.there (.there (.there (.there (.there (.there (.there (.here)))))))))) | exact .there (.there (.there (.there (.there (.there (.there (.there (.there (.there (.there (.here))))))))))) | exact .there (.there (.there (.there (.there (.there (.there (.there (.there (.there (.there (.there (.here))))))))))))) (Budget.at_units _)) ?_)
          refine WL.op rfl (opW.gtr rfl rfl ?_)
          refine WL.nil ?_
          refine thenQ_n (hK21 _ _ ?_)
          refine WC.cond _ rfl (fun hc6 => ?_) (fun hc6 => ?_)
          ·
            have hr6 := hc6
            try simp only [decide_eq_true_eq, decide_eq_false_iff_not, Bool.and_eq_true, Bool.or_eq_true, Bool.and_eq_false_iff, Bool.or_eq_false_iff, Bool.not_eq_true', Bool.not_eq_false', Int.not_lt, Int.not_le] at hc6
            refine WC.region ?_
            refine WL.op rfl (opW.fieldAddrB rfl ?_)
            refine WL.op0 (opW.storeF (v := .int .u64 ((1400000 : Nat) : Int)) (sz := 1) (cs' := Enc.enc (Budget.mk 1400000 ((s.S 1).getD 0) s.bad)) hS rfl rfl (by first | exact .here | exact .there (.here) | exact .there (.there (.here)) | exact .there (.there (.there (.here))) | exact .there (.there (.there (.there (.here)))) | exact .there (.there (.there (.there (.there (.here))))) | exact .there (.there (.there (.there (.there (.there (.here)))))) | exact .there (.there (.there (.there (.there (.there (.there (.here))))))) | exact .there (.there (.there (.there (.there (.there (.there (.there (.here)))))))) | exact .there (.there (.there (.there (.there (.there (.there (.there (.there (.here))))))))) | exact .there (.there (.there (.there (.there (.there (.there (.there (.there (.there (.here)))))))))) | exact .there (.there (.there (.there (.there (.there (.there (.there (.there (.there (.there (.here))))))))))) | exact .there (.there (.there (.there (.there (.there (.there (.there (.there (.there (.there (.there (.here))))))))))))) rfl (by rw [Enc.size_eq]; decide) (one_int _ _) (Budget.set_units (Budget.mk u ((s.S 1).getD 0) s.bad) _) ?_)
            intro w hS; replace hS := hS _ (by first | exact .here | exact .there (.here) | exact .there (.there (.here)) | exact .there (.there (.there (.here))) | exact .there (.there (.there (.there (.here)))) | exact .there (.there (.there (.there (.there (.here))))) | exact .there (.there (.there (.there (.there (.there (.here)))))) | exact .there (.there (.there (.there (.there (.there (.there (.here))))))) | exact .there (.there (.there (.there (.there (.there (.there (.there (.here)))))))) | exact .there (.there (.there (.there (.there (.there (.there (.there (.there (.here))))))))) | exact .there (.there (.there (.there (.there (.there (.there (.there (.there (.there (.here)))))))))) | exact .there (.there (.there (.there (.there (.there (.there (.there (.there (.there (.there (.here))))))))))) | exact .there (.there (.there (.there (.there (.there (.there (.there (.there (.there (.there (.there (.here)))))))))))))
            refine WL.nil ?_
            refine thenQ_n ?_
            first | exact ⟨1400000, ⟨rfl, rfl, trivial⟩, hS.sub (by repeat (first | with_reducible exact List.nil_sublist _ | with_reducible exact List.Sublist.refl _ | with_reducible refine List.Sublist.cons₂ _ ?_ | with_reducible refine List.Sublist.cons _ ?_)), hmr (of_decide_eq_true hr6)⟩ | exact ⟨u, ⟨rfl, rfl, trivial⟩, hS.sub (by repeat (first | with_reducible exact List.nil_sublist _ | with_reducible exact List.Sublist.refl _ | with_reducible refine List.Sublist.cons₂ _ ?_ | with_reducible refine List.Sublist.cons _ ?_)), hml (of_decide_eq_false hr6)⟩
          ·
            have hr6 := hc6
            try simp only [decide_eq_true_eq, decide_eq_false_iff_not, Bool.and_eq_true, Bool.or_eq_true, Bool.and_eq_false_iff, Bool.or_eq_false_iff, Bool.not_eq_true', Bool.not_eq_false', Int.not_lt, Int.not_le] at hc6
            refine WC.skip ?_
            refine thenQ_n ?_
            first | exact ⟨1400000, ⟨rfl, rfl, trivial⟩, hS.sub (by repeat (first | with_reducible exact List.nil_sublist _ | with_reducible exact List.Sublist.refl _ | with_reducible refine List.Sublist.cons₂ _ ?_ | with_reducible refine List.Sublist.cons _ ?_)), hmr (of_decide_eq_true hr6)⟩ | exact ⟨u, ⟨rfl, rfl, trivial⟩, hS.sub (by repeat (first | with_reducible exact List.nil_sublist _ | with_reducible exact List.Sublist.refl _ | with_reducible refine List.Sublist.cons₂ _ ?_ | with_reducible refine List.Sublist.cons _ ?_)), hml (of_decide_eq_false hr6)⟩
        ·
          rintro f w ⟨u2, hfit, hS, hu2⟩
          refine WC.fits _ hfit (fun g => ?_)
          clear hfit
          refine WC.seq (fun K22 hK22 => ?_)
          refine WC.region ?_
          refine WL.op rfl (opW.loadV rfl (hS.ldA (cs := Enc.enc (Budget.mk u2 ((s.S 1).getD 0) s.bad)) (by first | exact .here | exact .there (.here) | exact .there (.there (.here)) | exact .there (.there (.there (.here))) | exact .there (.there (.there (.there (.here)))) | exact .there (.there (.there (.there (.there (.here))))) | exact .there (.there (.there (.there (.there (.there (.here)))))) | exact .there (.there (.there (.there (.there (.there (.there (.here))))))) | exact .there (.there (.there (.there (.there (.there (.there (.there (.here)))))))) | exact .there (.there (.there (.there (.there (.there (.there (.there (.there (.here))))))))) | exact .there (.there (.there (.there (.there (.there (.there (.there (.there (.there (.here)))))))))) | exact .there (.there (.there (.there (.there (.there (.there (.there (.there (.there (.there (.here))))))))))) | exact .there (.there (.there (.there (.there (.there (.there (.there (.there (.there (.there (.there (.here))))))))))))) (Enc.size_eq _)) ?_)
          refine WL.op0 (opW.storeE hS rfl rfl (by first | exact .here | exact .there (.here) | exact .there (.there (.here)) | exact .there (.there (.there (.here))) | exact .there (.there (.there (.there (.here)))) | exact .there (.there (.there (.there (.there (.here))))) | exact .there (.there (.there (.there (.there (.there (.here)))))) | exact .there (.there (.there (.there (.there (.there (.there (.here))))))) | exact .there (.there (.there (.there (.there (.there (.there (.there (.here)))))))) | exact .there (.there (.there (.there (.there (.there (.there (.there (.there (.here))))))))) | exact .there (.there (.there (.there (.there (.there (.there (.there (.there (.there (.here)))))))))) | exact .there (.there (.there (.there (.there (.there (.there (.there (.there (.there (.there (.here))))))))))) | exact .there (.there (.there (.there (.there (.there (.there (.there (.there (.there (.there (.there (.here))))))))))))) (by first | rfl | exact Enc.size_eq _) ?_)
          intro w hS; replace hS := hS _ (by first | exact .here | exact .there (.here) | exact .there (.there (.here)) | exact .there (.there (.there (.here))) | exact .there (.there (.there (.there (.here)))) | exact .there (.there (.there (.there (.there (.here))))) | exact .there (.there (.there (.there (.there (.there (.here)))))) | exact .there (.there (.there (.there (.there (.there (.there (.here))))))) | exact .there (.there (.there (.there (.there (.there (.there (.there (.here)))))))) | exact .there (.there (.there (.there (.there (.there (.there (.there (.there (.here))))))))) | exact .there (.there (.there (.there (.there (.there (.there (.there (.there (.there (.here)))))))))) | exact .there (.there (.there (.there (.there (.there (.there (.there (.there (.there (.there (.here))))))))))) | exact .there (.there (.there (.there (.there (.there (.there (.there (.there (.there (.there (.there (.here)))))))))))))
          refine WL.nil ?_
          refine thenQ_n (hK22 _ _ ?_)
          refine WC.ret ?_
          refine bodyQ_ret (.cell (hS.ldA (cs := Enc.enc (Budget.mk u2 ((s.S 1).getD 0) s.bad)) (by first | exact .here | exact .there (.here) | exact .there (.there (.here)) | exact .there (.there (.there (.here))) | exact .there (.there (.there (.there (.here)))) | exact .there (.there (.there (.there (.there (.here))))) | exact .there (.there (.there (.there (.there (.there (.here)))))) | exact .there (.there (.there (.there (.there (.there (.there (.here))))))) | exact .there (.there (.there (.there (.there (.there (.there (.there (.here)))))))) | exact .there (.there (.there (.there (.there (.there (.there (.there (.there (.here))))))))) | exact .there (.there (.there (.there (.there (.there (.there (.there (.there (.there (.here)))))))))) | exact .there (.there (.there (.there (.there (.there (.there (.there (.there (.there (.there (.here))))))))))) | exact .there (.there (.there (.there (.there (.there (.there (.there (.there (.there (.there (.there (.here))))))))))))) (Enc.size_eq _)) .nil) ?_
          refine ⟨?_, hS.old⟩
          subst hu2
          subst hu
          rfl

end Go.Fer
