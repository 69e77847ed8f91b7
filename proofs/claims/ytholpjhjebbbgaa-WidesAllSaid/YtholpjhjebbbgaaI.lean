/- WidesAll -/
import Derived.Test.YtholpjhjebbbgaaH
set_option linter.all false
namespace Go.Fer
open Go Go.Proofs Go.RowKit

theorem all_law (w0 : World) (z : Vector U64 3) (hz : ∀ i (hi : i < 3), z[i].n < 18446744073709551616) (v : Value) (xs : List U64) (hx : SlR w0 v xs) (hb : Okl xs) : Ret Try.prog 3 #[.agg (Enc.enc z), v] w0 (fun r w' => r = .bool true ∧ Bel w0 w') := by
  refine Ret.enter (args := [.agg (Enc.enc z), v]) Try.func3 rfl Try.ntmps3 Try.results3 rfl ?_
  have hS := St.start w0
  refine WC.seq (fun K1 hK1 => ?_)
  refine WC.region ?_
  refine WL.op rfl (opW.boxA hS rfl ?_)
  intro b2 w _ hS
  refine WL.op rfl (opW.assignB rfl ?_)
  refine WL.nil ?_
  refine thenQ_n (hK1 _ _ ?_)
  refine WC.seq (fun K2 hK2 => ?_)
  refine WC.region ?_
  refine WL.op rfl (opW.idxArr rfl rfl (by omega) ?_)
  refine WL.op rfl (opW.loadV rfl (hS.ld1 (by first | exact .here | exact .there (.here) | exact .there (.there (.here)) | exact .there (.there (.there (.here))) | exact .there (.there (.there (.there (.here)))) | exact .there (.there (.there (.there (.there (.here))))) | exact .there (.there (.there (.there (.there (.there (.here)))))) | exact .there (.there (.there (.there (.there (.there (.there (.here))))))) | exact .there (.there (.there (.there (.there (.there (.there (.there (.here)))))))) | exact .there (.there (.there (.there (.there (.there (.there (.there (.there (.here))))))))) | exact .there (.there (.there (.there (.there (.there (.there (.there (.there (.there (.here)))))))))) | exact .there (.there (.there (.there (.there (.there (.there (.there (.there (.there (.there (.here))))))))))) | exact .there (.there (.there (.there (.there (.there (.there (.there (.there (.there (.there (.there (.here))))))))))))) (at_vec64 z 0 (by decide))) ?_)
  refine WL.op rfl (opW.assignI rfl ?_)
  refine WL.nil ?_
  refine thenQ_n (hK2 _ _ ?_)
  refine WC.seq (fun K3 hK3 => ?_)
  refine WC.region ?_
  refine WL.op rfl (opW.idxArr rfl rfl (by omega) ?_)
  refine WL.op rfl (opW.loadV rfl (hS.ld1 (by first | exact .here | exact .there (.here) | exact .there (.there (.here)) | exact .there (.there (.there (.here))) | exact .there (.there (.there (.there (.here)))) | exact .there (.there (.there (.there (.there (.here))))) | exact .there (.there (.there (.there (.there (.there (.here)))))) | exact .there (.there (.there (.there (.there (.there (.there (.here))))))) | exact .there (.there (.there (.there (.there (.there (.there (.there (.here)))))))) | exact .there (.there (.there (.there (.there (.there (.there (.there (.there (.here))))))))) | exact .there (.there (.there (.there (.there (.there (.there (.there (.there (.there (.here)))))))))) | exact .there (.there (.there (.there (.there (.there (.there (.there (.there (.there (.there (.here))))))))))) | exact .there (.there (.there (.there (.there (.there (.there (.there (.there (.there (.there (.there (.here))))))))))))) (at_vec64 z 1 (by decide))) ?_)
  refine WL.op rfl (opW.assignI rfl ?_)
  refine WL.nil ?_
  refine thenQ_n (hK3 _ _ ?_)
  refine WC.seq (fun K4 hK4 => ?_)
  refine WC.region ?_
  refine WL.op rfl (opW.idxArr rfl rfl (by omega) ?_)
  refine WL.op rfl (opW.loadV rfl (hS.ld1 (by first | exact .here | exact .there (.here) | exact .there (.there (.here)) | exact .there (.there (.there (.here))) | exact .there (.there (.there (.there (.here)))) | exact .there (.there (.there (.there (.there (.here))))) | exact .there (.there (.there (.there (.there (.there (.here)))))) | exact .there (.there (.there (.there (.there (.there (.there (.here))))))) | exact .there (.there (.there (.there (.there (.there (.there (.there (.here)))))))) | exact .there (.there (.there (.there (.there (.there (.there (.there (.there (.here))))))))) | exact .there (.there (.there (.there (.there (.there (.there (.there (.there (.there (.here)))))))))) | exact .there (.there (.there (.there (.there (.there (.there (.there (.there (.there (.there (.here))))))))))) | exact .there (.there (.there (.there (.there (.there (.there (.there (.there (.there (.there (.there (.here))))))))))))) (at_vec64 z 2 (by decide))) ?_)
  refine WL.op rfl (opW.assignI rfl ?_)
  refine WL.nil ?_
  refine thenQ_n (hK4 _ _ ?_)
  refine WC.seq (fun K5 hK5 => ?_)
  refine WC.seq (fun K6 hK6 => ?_)
  refine WC.region ?_
  refine WL.op rfl (opW.moveV (v := v) rfl ?_)
  refine WL.op rfl (opW.lenV rfl ((hx.bel hS.old)) ?_)
  refine WL.op rfl (opW.gtr rfl rfl ?_)
  refine WL.nil ?_
  refine thenQ_n (hK6 _ _ ?_)
  refine WC.cond _ rfl (fun hc0 => ?_) (fun hc0 => ?_)
  ·
    have hr0 := hc0
    try simp only [decide_eq_true_eq, decide_eq_false_iff_not, Bool.and_eq_true, Bool.or_eq_true, Bool.and_eq_false_iff, Bool.or_eq_false_iff, Bool.not_eq_true', Bool.not_eq_false', Int.not_lt, Int.not_le] at hc0
    refine WC.seq (fun K7 hK7 => ?_)
    refine WC.region ?_
    refine WL.op rfl (opW.call (lives02 _) rfl ?_)
    rintro _ w ⟨rfl, hw⟩; replace hS := hS.bel hw
    refine WL.op rfl (opW.assignB rfl ?_)
    refine WL.nil ?_
    refine thenQ_n (hK7 _ _ ?_)
    refine WC.ret ?_
    refine thenQ_r ?_
    refine bodyQ_ret (.tmpB rfl .nil) ?_
    exact ⟨rfl, hS.old⟩
  ·
    have hr0 := hc0
    try simp only [decide_eq_true_eq, decide_eq_false_iff_not, Bool.and_eq_true, Bool.or_eq_true, Bool.and_eq_false_iff, Bool.or_eq_false_iff, Bool.not_eq_true', Bool.not_eq_false', Int.not_lt, Int.not_le] at hc0
    refine WC.skip ?_
    refine thenQ_n (hK5 _ _ ?_)
    refine WC.seq (fun K8 hK8 => ?_)
    refine WC.region ?_
    refine WL.op rfl (opW.moveI rfl ?_)
    refine WL.op rfl (opW.moveI rfl ?_)
    refine WL.op rfl (opW.call (wmul_ok _ z[0].n z[1].n (hz 0 (by decide)) (hz 1 (by decide))) rfl ?_)
    rintro _ w ⟨rfl, hw⟩; replace hS := hS.bel hw
    refine WL.op rfl (opW.moveV (v := .tuple #[.int .u64 ((z[0].n * z[1].n / 18446744073709551616 : Nat) : Int), .int .u64 ((z[0].n * z[1].n % 18446744073709551616 : Nat) : Int)]) rfl ?_)
    refine WL.op rfl (opW.extract rfl rfl ?_)
    refine WL.op rfl (opW.extract rfl rfl ?_)
    refine WL.op rfl (opW.assignI rfl ?_)
    refine WL.op rfl (opW.assignI rfl ?_)
    refine WL.nil ?_
    refine thenQ_n (hK8 _ _ ?_)
    refine WC.seq (fun K9 hK9 => ?_)
    refine WC.region ?_
    refine WL.op rfl (opW.moveI rfl ?_)
    refine WL.op rfl (opW.moveI rfl ?_)
    refine WL.op rfl (opW.call (refmul_ok _ z[0].n z[1].n (hz 0 (by decide)) (hz 1 (by decide))) rfl ?_)
    rintro _ w ⟨rfl, hw⟩; replace hS := hS.bel hw
    refine WL.op rfl (opW.moveV (v := .tuple #[.int .u64 ((z[0].n * z[1].n / 18446744073709551616 : Nat) : Int), .int .u64 ((z[0].n * z[1].n % 18446744073709551616 : Nat) : Int)]) rfl ?_)
    refine WL.op rfl (opW.extract rfl rfl ?_)
    refine WL.op rfl (opW.extract rfl rfl ?_)
    refine WL.op rfl (opW.assignI rfl ?_)
    refine WL.op rfl (opW.assignI rfl ?_)
    refine WL.nil ?_
    refine thenQ_n (hK9 _ _ ?_)
    refine WC.seq (fun K10 hK10 => ?_)
    refine WC.region ?_
    refine WL.op rfl (opW.moveI rfl ?_)
    refine WL.op rfl (opW.moveI rfl ?_)
    refine WL.op rfl (opW.boolT (by simp) (opW.eql rfl rfl ⟨rfl, rfl⟩) ?_)
    refine WL.op rfl (opW.moveB rfl ?_)
    refine WL.gT 37 rfl rfl rfl (WL.op rfl (opW.moveI rfl ?_))
    refine WL.gT 37 rfl rfl rfl (WL.op rfl (opW.moveI rfl ?_))
    refine WL.gT 37 rfl rfl rfl (WL.op rfl (opW.boolT (by simp) (opW.eql rfl rfl ⟨rfl, rfl⟩) ?_))
    refine WL.op rfl (opW.pickT rfl rfl ?_)
    refine WL.op rfl (opW.moveB rfl ?_)
    refine WL.gT 42 rfl rfl rfl (WL.op rfl (opW.moveI rfl ?_))
    refine WL.gT 42 rfl rfl rfl (WL.op rfl (opW.moveI rfl ?_))
    refine WL.gT 42 rfl rfl rfl (WL.op rfl (opW.moveI rfl ?_))
    refine WL.gT 42 rfl rfl rfl (WL.op rfl (opW.call (wtimes_ok _ z[0].n z[1].n z[2].n false (hz 0 (by decide)) (hz 1 (by decide)) (hz 2 (by decide))) rfl ?_))
    rintro _ w ⟨rfl, hw⟩; replace hS := hS.bel hw
    refine WL.gT 42 rfl rfl rfl (WL.op rfl (opW.moveI rfl ?_))
    refine WL.gT 42 rfl rfl rfl (WL.op rfl (opW.moveI rfl ?_))
    refine WL.gT 42 rfl rfl rfl (WL.op rfl (opW.moveI rfl ?_))
    refine WL.gT 42 rfl rfl rfl (WL.op rfl (opW.call (reftimes_ok _ z[0].n z[1].n z[2].n false (hz 0 (by decide)) (hz 1 (by decide)) (hz 2 (by decide))) rfl ?_))
    rintro _ w ⟨rfl, hw⟩; replace hS := hS.bel hw
    refine WL.gT 42 rfl rfl rfl (WL.op rfl (opW.boolT (by simp) (opW.eql rfl rfl ⟨rfl, rfl⟩) ?_))
    refine WL.op rfl (opW.pickT rfl rfl ?_)
    refine WL.op rfl (opW.moveB rfl ?_)
    refine WL.gT 53 rfl rfl rfl (WL.op rfl (opW.moveI rfl ?_))
    refine WL.gT 53 rfl rfl rfl (WL.op rfl (opW.moveI rfl ?_))
    refine WL.gT 53 rfl rfl rfl (WL.op rfl (opW.moveI rfl ?_))
    refine WL.gT 53 rfl rfl rfl (WL.op rfl (opW.call (wtimes_ok _ z[0].n z[1].n z[2].n true (hz 0 (by decide)) (hz 1 (by decide)) (hz 2 (by decide))) rfl ?_))
    rintro _ w ⟨rfl, hw⟩; replace hS := hS.bel hw
    refine WL.gT 53 rfl rfl rfl (WL.op rfl (opW.moveI rfl ?_))
    refine WL.gT 53 rfl rfl rfl (WL.op rfl (opW.moveI rfl ?_))
    refine WL.gT 53 rfl rfl rfl (WL.op rfl (opW.moveI rfl ?_))
    refine WL.gT 53 rfl rfl rfl (WL.op rfl (opW.call (reftimes_ok _ z[0].n z[1].n z[2].n true (hz 0 (by decide)) (hz 1 (by decide)) (hz 2 (by decide))) rfl ?_))
    rintro _ w ⟨rfl, hw⟩; replace hS := hS.bel hw
    refine WL.gT 53 rfl rfl rfl (WL.op rfl (opW.boolT (by simp) (opW.eql rfl rfl ⟨rfl, rfl⟩) ?_))
    refine WL.op rfl (opW.pickT rfl rfl ?_)
    refine WL.op rfl (opW.moveB rfl ?_)
    refine WL.gT 64 rfl rfl rfl (WL.op rfl (opW.moveV (v := v) rfl ?_))
    refine WL.gT 64 rfl rfl rfl (WL.op rfl (opW.call (wsum_ok _ _ xs (hx.bel hS.old) hb) rfl ?_))
    rintro _ w ⟨rfl, hw⟩; replace hS := hS.bel hw
    refine WL.gT 64 rfl rfl rfl (WL.op rfl (opW.moveV (v := v) rfl ?_))
    refine WL.gT 64 rfl rfl rfl (WL.op rfl (opW.call (refsum_ok _ _ xs (hx.bel hS.old) hb) rfl ?_))
    rintro _ w ⟨rfl, hw⟩; replace hS := hS.bel hw
    refine WL.gT 64 rfl rfl rfl (WL.op rfl (opW.boolT (by simp) (opW.eql rfl rfl ⟨rfl, rfl⟩) ?_))
    refine WL.op rfl (opW.pickT rfl rfl ?_)
    refine WL.op rfl (opW.moveB rfl ?_)
    refine WL.gT 71 rfl rfl rfl (WL.op rfl (opW.call (lives02 _) rfl ?_))
    rintro _ w ⟨rfl, hw⟩; replace hS := hS.bel hw
    refine WL.op rfl (opW.pickT rfl rfl ?_)
    refine WL.op rfl (opW.assignB rfl ?_)
    refine WL.nil ?_
    refine thenQ_n (hK10 _ _ ?_)
    refine WC.ret ?_
    refine bodyQ_ret (.tmpB rfl .nil) ?_
    exact ⟨rfl, hS.old⟩

end Go.Fer
