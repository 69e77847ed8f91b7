/- lives, great -/
import Derived.Test.YtinclpfoiljioaaB
set_option linter.all false
namespace Go.Fer
open Go Go.Proofs Go.RowKit

@[irreducible] def kK (c : UInt8) : Key := (vz 32).set 0 c
theorem kK_ne : ¬ kK 2 = kK 1 := by decide +kernel

theorem lives20 (w0 : World) : Ret Try.prog 9 #[] w0 (fun r w' => r = .bool true ∧ Bel w0 w') := by
  refine Ret.enter (args := []) Try.func9 rfl Try.ntmps9 Try.results9 rfl ?_
  have hS := St.start w0
  refine WC.seq (fun K1 hK1 => ?_)
  refine WC.region ?_
  refine WL.op rfl (opW.assignB rfl ?_)
  refine WL.nil ?_
  refine thenQ_n (hK1 _ _ ?_)
  refine WC.seq (fun K2 hK2 => ?_)
  refine WC.region ?_
  refine WL.op rfl (opW.buildVec (k := (kK 1)) (by first | rfl | (simp only [kK, enc_vset, enc_vz]; rfl)) (by intro p hp; first | (exfalso; simp at hp; done) | (simp only [List.map_cons, List.map_nil, List.mem_cons, List.not_mem_nil, or_false] at hp; rcases hp with rfl | rfl | rfl | rfl <;> exact ⟨by simp, rfl⟩)) ?_)
  refine WL.op rfl (opW.buildSl hS (([kK 1] : List Key)) [.agg (Enc.enc (kK 1))] rfl rfl rfl rfl (by decide) ?_)
  intro b5 w hw hS
  refine WL.op rfl (opW.assignV (v := .slice (some ⟨b5, 0, none⟩) 1 1) rfl ?_)
  refine WL.nil ?_
  refine thenQ_n (hK2 _ _ ?_)
  refine WC.seq (fun K3 hK3 => ?_)
  refine WC.region ?_
  refine WL.op rfl (opW.buildVec (k := (kK 2)) (by first | rfl | (simp only [kK, enc_vset, enc_vz]; rfl)) (by intro p hp; first | (exfalso; simp at hp; done) | (simp only [List.map_cons, List.map_nil, List.mem_cons, List.not_mem_nil, or_false] at hp; rcases hp with rfl | rfl | rfl | rfl <;> exact ⟨by simp, rfl⟩)) ?_)
  refine WL.op rfl (opW.buildSl hS (([kK 2] : List Key)) [.agg (Enc.enc (kK 2))] rfl rfl rfl rfl (by decide) ?_)
  intro b7 w hw hS
  refine WL.op rfl (opW.assignV (v := .slice (some ⟨b7, 0, none⟩) 1 1) rfl ?_)
  refine WL.nil ?_
  refine thenQ_n (hK3 _ _ ?_)
  refine WC.seq (fun K4 hK4 => ?_)
  refine WC.region ?_
  refine WL.op rfl (opW.buildE (r := (⟨100, 60, 10⟩ : Limits)) (ps := Limits.parts (⟨100, 60, 10⟩ : Limits)) (Limits.enc_eq _) (by first | rfl | (simp only [kK, enc_vset, enc_vz, Limits.enc_eq, Limits.parts, Asked.enc_eq, Asked.parts, TrS.enc_eq, TrS.parts, Added.enc_eq, Added.parts, RfS.enc_eq, RfS.parts]; rfl)) (by (repeat' (first | exact trivial | refine And.intro ?_ ?_)) <;> first | rfl | exact Enc.size_eq _ | (simp; done)) ?_)
  refine WL.op rfl (opW.call (new_ok _ ⟨100, 60, 10⟩) rfl ?_)
  rintro _ w ⟨p, d0, rfl, hl0, hb0, hs0, ho0, hn, hw⟩
  replace hS := hS.newE hw hn
  refine WL.op rfl (opW.assignV (v := .pointer (some ⟨p, 0, none⟩)) rfl ?_)
  refine WL.nil ?_
  refine thenQ_n (hK4 _ _ ?_)
  refine WC.seq (fun K5 hK5 => ?_)
  refine WC.seq (fun K6 hK6 => ?_)
  refine WC.region ?_
  refine WL.op rfl (opW.moveV (v := .pointer (some ⟨p, 0, none⟩)) rfl ?_)
  refine WL.op rfl (opW.moveV (v := .slice (some ⟨b5, 0, none⟩) 1 1) rfl ?_)
  refine WL.op rfl (opW.call (add_ok _ _ [ownE (.slice (some ⟨b7, 0, none⟩) 1 1) 27 ([kK 2] : List Key), ownE (.slice (some ⟨b5, 0, none⟩) 1 1) 27 ([kK 1] : List Key)] p d0 50 [kK 1] 4 (.slice (some ⟨b5, 0, none⟩) 1 1) (hS.pick (by first | exact .here | exact .there (.here) | exact .there (.there (.here)) | exact .there (.there (.there (.here))) | exact .there (.there (.there (.there (.here)))) | exact .there (.there (.there (.there (.there (.here))))) | exact .there (.there (.there (.there (.there (.there (.here)))))) | exact .there (.there (.there (.there (.there (.there (.there (.here))))))) | exact .there (.there (.there (.there (.there (.there (.there (.there (.here)))))))) | exact .there (.there (.there (.there (.there (.there (.there (.there (.there (.here))))))))) | exact .there (.there (.there (.there (.there (.there (.there (.there (.there (.there (.here)))))))))) | exact .there (.there (.there (.there (.there (.there (.there (.there (.there (.there (.there (.here))))))))))) | exact .there (.there (.there (.there (.there (.there (.there (.there (.there (.there (.there (.there (.here)))))))))))))) (show TrOk d0 from ⟨by rw [hb0]; decide, by rw [hs0]; decide, fun k => by rw [ho0]; decide⟩) (fun w h => h.sl (by first | exact .here | exact .there (.here) | exact .there (.there (.here)) | exact .there (.there (.there (.here))) | exact .there (.there (.there (.there (.here)))) | exact .there (.there (.there (.there (.there (.here))))) | exact .there (.there (.there (.there (.there (.there (.here)))))) | exact .there (.there (.there (.there (.there (.there (.there (.here))))))) | exact .there (.there (.there (.there (.there (.there (.there (.there (.here)))))))) | exact .there (.there (.there (.there (.there (.there (.there (.there (.there (.here))))))))) | exact .there (.there (.there (.there (.there (.there (.there (.there (.there (.there (.here)))))))))) | exact .there (.there (.there (.there (.there (.there (.there (.there (.there (.there (.there (.here))))))))))) | exact .there (.there (.there (.there (.there (.there (.there (.there (.there (.there (.there (.there (.here))))))))))))))) rfl ?_)
  rintro _ w ⟨d1, rfl, ha1, _, hok1, hS⟩
  have hz1 : wouldC d0 50 [kK 1] 4 = 0 := by simp [wouldC, hl0, hb0, hs0, ho0, sumH, kK_ne]
  have hA1 := ha1 hz1
  rw [hz1]
  refine WL.op rfl (opW.boolF (by decide) (opW.neq rfl rfl ⟨rfl, rfl⟩) ?_)
  refine WL.op rfl (opW.moveB rfl ?_)
  refine WL.gT 14 rfl rfl rfl (WL.op rfl (opW.moveV (v := .pointer (some ⟨p, 0, none⟩)) rfl ?_))
  refine WL.gT 14 rfl rfl rfl (WL.op rfl (opW.call (would_ok _ p d1 51 [] 0 _ (hS.trAt (by first | exact .here | exact .there (.here) | exact .there (.there (.here)) | exact .there (.there (.there (.here))) | exact .there (.there (.there (.there (.here)))) | exact .there (.there (.there (.there (.there (.here))))) | exact .there (.there (.there (.there (.there (.there (.here)))))) | exact .there (.there (.there (.there (.there (.there (.there (.here))))))) | exact .there (.there (.there (.there (.there (.there (.there (.there (.here)))))))) | exact .there (.there (.there (.there (.there (.there (.there (.there (.there (.here))))))))) | exact .there (.there (.there (.there (.there (.there (.there (.there (.there (.there (.here)))))))))) | exact .there (.there (.there (.there (.there (.there (.there (.there (.there (.there (.there (.here))))))))))) | exact .there (.there (.there (.there (.there (.there (.there (.there (.there (.there (.there (.there (.here)))))))))))))) hok1 (SlR.nil _)) rfl ?_))
  rintro _ w ⟨rfl, hw⟩; replace hS := hS.bel hw
  rw [show wouldC d1 51 [] 0 = 24 from by simp [wouldC, hA1.1, hA1.2.1, hA1.2.2.1, hA1.2.2.2, hl0, hb0, hs0, ho0, sumH, kK_ne]]
  refine WL.gT 14 rfl rfl rfl (WL.op rfl (opW.boolF (by decide) (opW.neq rfl rfl ⟨rfl, rfl⟩) ?_))
  refine WL.op rfl (opW.pickT rfl rfl ?_)
  refine WL.op rfl (opW.moveB rfl ?_)
  refine WL.gT 19 rfl rfl rfl (WL.op rfl (opW.moveV (v := .pointer (some ⟨p, 0, none⟩)) rfl ?_))
  refine WL.gT 19 rfl rfl rfl (WL.op rfl (opW.call (would_ok _ p d1 50 [] 7 _ (hS.trAt (by first | exact .here | exact .there (.here) | exact .there (.there (.here)) | exact .there (.there (.there (.here))) | exact .there (.there (.there (.there (.here)))) | exact .there (.there (.there (.there (.there (.here))))) | exact .there (.there (.there (.there (.there (.there (.here)))))) | exact .there (.there (.there (.there (.there (.there (.there (.here))))))) | exact .there (.there (.there (.there (.there (.there (.there (.there (.here)))))))) | exact .there (.there (.there (.there (.there (.there (.there (.there (.there (.here))))))))) | exact .there (.there (.there (.there (.there (.there (.there (.there (.there (.there (.here)))))))))) | exact .there (.there (.there (.there (.there (.there (.there (.there (.there (.there (.there (.here))))))))))) | exact .there (.there (.there (.there (.there (.there (.there (.there (.there (.there (.there (.there (.here)))))))))))))) hok1 (SlR.nil _)) rfl ?_))
  rintro _ w ⟨rfl, hw⟩; replace hS := hS.bel hw
  rw [show wouldC d1 50 [] 7 = 26 from by simp [wouldC, hA1.1, hA1.2.1, hA1.2.2.1, hA1.2.2.2, hl0, hb0, hs0, ho0, sumH, kK_ne]]
  refine WL.gT 19 rfl rfl rfl (WL.op rfl (opW.boolF (by decide) (opW.neq rfl rfl ⟨rfl, rfl⟩) ?_))
  refine WL.op rfl (opW.pickT rfl rfl ?_)
  refine WL.op rfl (opW.moveB rfl ?_)
  refine WL.gT 24 rfl rfl rfl (WL.op rfl (opW.moveV (v := .pointer (some ⟨p, 0, none⟩)) rfl ?_))
  refine WL.gT 24 rfl rfl rfl (WL.op rfl (opW.moveV (v := .slice (some ⟨b5, 0, none⟩) 1 1) rfl ?_))
  refine WL.gT 24 rfl rfl rfl (WL.op rfl (opW.call (add_ok _ _ [ownE (.slice (some ⟨b7, 0, none⟩) 1 1) 27 ([kK 2] : List Key), ownE (.slice (some ⟨b5, 0, none⟩) 1 1) 27 ([kK 1] : List Key)] p d1 11 [kK 1] 0 (.slice (some ⟨b5, 0, none⟩) 1 1) (hS.pick (by first | exact .here | exact .there (.here) | exact .there (.there (.here)) | exact .there (.there (.there (.here))) | exact .there (.there (.there (.there (.here)))) | exact .there (.there (.there (.there (.there (.here))))) | exact .there (.there (.there (.there (.there (.there (.here)))))) | exact .there (.there (.there (.there (.there (.there (.there (.here))))))) | exact .there (.there (.there (.there (.there (.there (.there (.there (.here)))))))) | exact .there (.there (.there (.there (.there (.there (.there (.there (.there (.here))))))))) | exact .there (.there (.there (.there (.there (.there (.there (.there (.there (.there (.here)))))))))) | exact .there (.there (.there (.there (.there (.there (.there (.there (.there (.there (.there (.here))))))))))) | exact .there (.there (.there (.there (.there (.there (.there (.there (.there (.there (.there (.there (.here)))))))))))))) hok1 (fun w h => h.sl (by first | exact .here | exact .there (.here) | exact .there (.there (.here)) | exact .there (.there (.there (.here))) | exact .there (.there (.there (.there (.here)))) | exact .there (.there (.there (.there (.there (.here))))) | exact .there (.there (.there (.there (.there (.there (.here)))))) | exact .there (.there (.there (.there (.there (.there (.there (.here))))))) | exact .there (.there (.there (.there (.there (.there (.there (.there (.here)))))))) | exact .there (.there (.there (.there (.there (.there (.there (.there (.there (.here))))))))) | exact .there (.there (.there (.there (.there (.there (.there (.there (.there (.there (.here)))))))))) | exact .there (.there (.there (.there (.there (.there (.there (.there (.there (.there (.there (.here))))))))))) | exact .there (.there (.there (.there (.there (.there (.there (.there (.there (.there (.there (.there (.here))))))))))))))) rfl ?_))
  rintro _ w ⟨d2, rfl, _, hb2, hok2, hS⟩
  have hz2 : wouldC d1 11 [kK 1] 0 = 25 := by simp [wouldC, hA1.1, hA1.2.1, hA1.2.2.1, hA1.2.2.2, hl0, hb0, hs0, ho0, sumH, kK_ne]
  have e2 := hb2 (by rw [hz2]; decide)
  rw [e2] at hS hok2
  rw [hz2]
  refine WL.gT 24 rfl rfl rfl (WL.op rfl (opW.boolF (by decide) (opW.neq rfl rfl ⟨rfl, rfl⟩) ?_))
  refine WL.op rfl (opW.pickT rfl rfl ?_)
  refine WL.nil ?_
  refine thenQ_n (hK6 _ _ ?_)
  refine WC.cond _ rfl (fun hc0 => ?_) (fun hc0 => ?_)
  ·
    have hr0 := hc0
    try simp only [decide_eq_true_eq, decide_eq_false_iff_not, Bool.and_eq_true, Bool.or_eq_true, Bool.and_eq_false_iff, Bool.or_eq_false_iff, Bool.not_eq_true', Bool.not_eq_false', Int.not_lt, Int.not_le] at hc0
    exact absurd hr0 (by decide)
  ·
    have hr0 := hc0
    try simp only [decide_eq_true_eq, decide_eq_false_iff_not, Bool.and_eq_true, Bool.or_eq_true, Bool.and_eq_false_iff, Bool.or_eq_false_iff, Bool.not_eq_true', Bool.not_eq_false', Int.not_lt, Int.not_le] at hc0
    refine WC.skip ?_
    refine thenQ_n (hK5 _ _ ?_)
    refine WC.seq (fun K7 hK7 => ?_)
    refine WC.region ?_
    refine WL.op rfl (opW.moveV (v := .pointer (some ⟨p, 0, none⟩)) rfl ?_)
    refine WL.op rfl (opW.moveV (v := .slice (some ⟨b7, 0, none⟩) 1 1) rfl ?_)
    refine WL.op rfl (opW.call (add_ok _ _ [ownE (.slice (some ⟨b7, 0, none⟩) 1 1) 27 ([kK 2] : List Key), ownE (.slice (some ⟨b5, 0, none⟩) 1 1) 27 ([kK 1] : List Key)] p d1 50 [kK 2] 6 (.slice (some ⟨b7, 0, none⟩) 1 1) (hS.pick (by first | exact .here | exact .there (.here) | exact .there (.there (.here)) | exact .there (.there (.there (.here))) | exact .there (.there (.there (.there (.here)))) | exact .there (.there (.there (.there (.there (.here))))) | exact .there (.there (.there (.there (.there (.there (.here)))))) | exact .there (.there (.there (.there (.there (.there (.there (.here))))))) | exact .there (.there (.there (.there (.there (.there (.there (.there (.here)))))))) | exact .there (.there (.there (.there (.there (.there (.there (.there (.there (.here))))))))) | exact .there (.there (.there (.there (.there (.there (.there (.there (.there (.there (.here)))))))))) | exact .there (.there (.there (.there (.there (.there (.there (.there (.there (.there (.there (.here))))))))))) | exact .there (.there (.there (.there (.there (.there (.there (.there (.there (.there (.there (.there (.here)))))))))))))) hok2 (fun w h => h.sl (by first | exact .here | exact .there (.here) | exact .there (.there (.here)) | exact .there (.there (.there (.here))) | exact .there (.there (.there (.there (.here)))) | exact .there (.there (.there (.there (.there (.here))))) | exact .there (.there (.there (.there (.there (.there (.here)))))) | exact .there (.there (.there (.there (.there (.there (.there (.here))))))) | exact .there (.there (.there (.there (.there (.there (.there (.there (.here)))))))) | exact .there (.there (.there (.there (.there (.there (.there (.there (.there (.here))))))))) | exact .there (.there (.there (.there (.there (.there (.there (.there (.there (.there (.here)))))))))) | exact .there (.there (.there (.there (.there (.there (.there (.there (.there (.there (.there (.here))))))))))) | exact .there (.there (.there (.there (.there (.there (.there (.there (.there (.there (.there (.there (.here))))))))))))))) rfl ?_)
    rintro _ w ⟨d3, rfl, ha2, _, hok3, hS⟩
    have hz3 : wouldC d1 50 [kK 2] 6 = 0 := by simp [wouldC, hA1.1, hA1.2.1, hA1.2.2.1, hA1.2.2.2, hl0, hb0, hs0, ho0, sumH, kK_ne]
    have hA2 := ha2 hz3
    rw [hz3]
    refine WL.op rfl (opW.boolT (by decide) (opW.eql rfl rfl ⟨rfl, rfl⟩) ?_)
    refine WL.op rfl (opW.moveB rfl ?_)
    refine WL.gT 34 rfl rfl rfl (WL.op rfl (opW.moveV (v := .pointer (some ⟨p, 0, none⟩)) rfl ?_))
    refine WL.gT 34 rfl rfl rfl (WL.op rfl (opW.call (block_ok _ p d3 (hS.trAt (by first | exact .here | exact .there (.here) | exact .there (.there (.here)) | exact .there (.there (.there (.here))) | exact .there (.there (.there (.there (.here)))) | exact .there (.there (.there (.there (.there (.here))))) | exact .there (.there (.there (.there (.there (.there (.here)))))) | exact .there (.there (.there (.there (.there (.there (.there (.here))))))) | exact .there (.there (.there (.there (.there (.there (.there (.there (.here)))))))) | exact .there (.there (.there (.there (.there (.there (.there (.there (.there (.here))))))))) | exact .there (.there (.there (.there (.there (.there (.there (.there (.there (.there (.here)))))))))) | exact .there (.there (.there (.there (.there (.there (.there (.there (.there (.there (.there (.here))))))))))) | exact .there (.there (.there (.there (.there (.there (.there (.there (.there (.there (.there (.there (.here))))))))))))))) rfl ?_))
    rintro _ w ⟨rfl, hw⟩; replace hS := hS.bel hw
    refine WL.gT 34 rfl rfl rfl (WL.op rfl (opW.boolT (by simp [hA2.1, hA2.2.1, hA2.2.2.1, hA2.2.2.2, hA1.1, hA1.2.1, hA1.2.2.1, hA1.2.2.2, hl0, hb0, hs0, ho0, sumH]) (opW.eql rfl rfl ⟨rfl, rfl⟩) ?_))
    refine WL.op rfl (opW.pickT rfl rfl ?_)
    refine WL.op rfl (opW.moveB rfl ?_)
    refine WL.gT 39 rfl rfl rfl (WL.op rfl (opW.moveV (v := .pointer (some ⟨p, 0, none⟩)) rfl ?_))
    refine WL.gT 39 rfl rfl rfl (WL.op rfl (opW.moveV (v := .slice (some ⟨b5, 0, none⟩) 1 1) rfl ?_))
    refine WL.gT 39 rfl rfl rfl (WL.op rfl (opW.idxV rfl (hS.sl (xs := ([kK 1] : List Key)) (by first | exact .here | exact .there (.here) | exact .there (.there (.here)) | exact .there (.there (.there (.here))) | exact .there (.there (.there (.there (.here)))) | exact .there (.there (.there (.there (.there (.here))))) | exact .there (.there (.there (.there (.there (.there (.here)))))) | exact .there (.there (.there (.there (.there (.there (.there (.here))))))) | exact .there (.there (.there (.there (.there (.there (.there (.there (.here)))))))) | exact .there (.there (.there (.there (.there (.there (.there (.there (.there (.here))))))))) | exact .there (.there (.there (.there (.there (.there (.there (.there (.there (.there (.here)))))))))) | exact .there (.there (.there (.there (.there (.there (.there (.there (.there (.there (.there (.here))))))))))) | exact .there (.there (.there (.there (.there (.there (.there (.there (.there (.there (.there (.there (.here)))))))))))))) rfl (by simp) ?_))
    refine WL.gT 39 rfl rfl rfl (WL.op rfl (opW.loadV rfl (((hS.sl (xs := ([kK 1] : List Key)) (by first | exact .here | exact .there (.here) | exact .there (.there (.here)) | exact .there (.there (.there (.here))) | exact .there (.there (.there (.there (.here)))) | exact .there (.there (.there (.there (.there (.here))))) | exact .there (.there (.there (.there (.there (.there (.here)))))) | exact .there (.there (.there (.there (.there (.there (.there (.here))))))) | exact .there (.there (.there (.there (.there (.there (.there (.there (.here)))))))) | exact .there (.there (.there (.there (.there (.there (.there (.there (.there (.here))))))))) | exact .there (.there (.there (.there (.there (.there (.there (.there (.there (.there (.here)))))))))) | exact .there (.there (.there (.there (.there (.there (.there (.there (.there (.there (.there (.here))))))))))) | exact .there (.there (.there (.there (.there (.there (.there (.there (.there (.there (.there (.there (.here)))))))))))))).isPt (by decide : 0 < 1)).ldA (Enc.size_eq (kK 1))) ?_))
    refine WL.gT 39 rfl rfl rfl (WL.op rfl (opW.call (ofk_ok _ p d3 (kK 1) (hS.trAt (by first | exact .here | exact .there (.here) | exact .there (.there (.here)) | exact .there (.there (.there (.here))) | exact .there (.there (.there (.there (.here)))) | exact .there (.there (.there (.there (.there (.here))))) | exact .there (.there (.there (.there (.there (.there (.here)))))) | exact .there (.there (.there (.there (.there (.there (.there (.here))))))) | exact .there (.there (.there (.there (.there (.there (.there (.there (.here)))))))) | exact .there (.there (.there (.there (.there (.there (.there (.there (.there (.here))))))))) | exact .there (.there (.there (.there (.there (.there (.there (.there (.there (.there (.here)))))))))) | exact .there (.there (.there (.there (.there (.there (.there (.there (.there (.there (.there (.here))))))))))) | exact .there (.there (.there (.there (.there (.there (.there (.there (.there (.there (.there (.there (.here))))))))))))))) rfl ?_))
    rintro _ w ⟨rfl, hw⟩; replace hS := hS.bel hw
    refine WL.gT 39 rfl rfl rfl (WL.op rfl (opW.boolT (by simp [hA2.1, hA2.2.1, hA2.2.2.1, hA2.2.2.2, hA1.1, hA1.2.1, hA1.2.2.1, hA1.2.2.2, hl0, hb0, hs0, ho0, sumH, Ne.symm kK_ne]) (opW.eql rfl rfl ⟨rfl, rfl⟩) ?_))
    refine WL.op rfl (opW.pickT rfl rfl ?_)
    refine WL.op rfl (opW.moveB rfl ?_)
    refine WL.gT 47 rfl rfl rfl (WL.op rfl (opW.moveV (v := .pointer (some ⟨p, 0, none⟩)) rfl ?_))
    refine WL.gT 47 rfl rfl rfl (WL.op rfl (opW.call (space_ok _ p d3 (hS.trAt (by first | exact .here | exact .there (.here) | exact .there (.there (.here)) | exact .there (.there (.there (.here))) | exact .there (.there (.there (.there (.here)))) | exact .there (.there (.there (.there (.there (.here))))) | exact .there (.there (.there (.there (.there (.there (.here)))))) | exact .there (.there (.there (.there (.there (.there (.there (.here))))))) | exact .there (.there (.there (.there (.there (.there (.there (.there (.here)))))))) | exact .there (.there (.there (.there (.there (.there (.there (.there (.there (.here))))))))) | exact .there (.there (.there (.there (.there (.there (.there (.there (.there (.there (.here)))))))))) | exact .there (.there (.there (.there (.there (.there (.there (.there (.there (.there (.there (.here))))))))))) | exact .there (.there (.there (.there (.there (.there (.there (.there (.there (.there (.there (.there (.here))))))))))))))) rfl ?_))
    rintro _ w ⟨rfl, hw⟩; replace hS := hS.bel hw
    refine WL.gT 47 rfl rfl rfl (WL.op rfl (opW.boolT (by simp [hA2.1, hA2.2.1, hA2.2.2.1, hA2.2.2.2, hA1.1, hA1.2.1, hA1.2.2.1, hA1.2.2.2, hl0, hb0, hs0, ho0, sumH]) (opW.eql rfl rfl ⟨rfl, rfl⟩) ?_))
    refine WL.op rfl (opW.pickT rfl rfl ?_)
    refine WL.op rfl (opW.assignB rfl ?_)
    refine WL.nil ?_
    refine thenQ_n (hK7 _ _ ?_)
    refine WC.ret ?_
    refine bodyQ_ret (.tmpB rfl .nil) ?_
    exact ⟨rfl, hS.old⟩

theorem great20 (w0 : World) (v : Value) (xs : List Asked) (hx : SlR w0 v xs) (hxo : ∀ x ∈ xs, Asked.ok w0 x) : Ret Try.prog 8 #[v] w0 (fun u w' => ∃ b, u = .bool b ∧ (b = false → xs.length < 2000) ∧ Bel w0 w') := by
  refine Ret.enter (args := [v]) Try.func8 rfl Try.ntmps8 Try.results8 rfl ?_
  have hS := St.start w0
  refine WC.seq (fun K1 hK1 => ?_)
  refine WC.region ?_
  refine WL.op rfl (opW.assignB rfl ?_)
  refine WL.nil ?_
  refine thenQ_n (hK1 _ _ ?_)
  refine WC.seq (fun K2 hK2 => ?_)
  refine WC.region ?_
  refine WL.op rfl (opW.moveV (v := v) rfl ?_)
  refine WL.op rfl (opW.lenV rfl ((hx.bel hS.old)) ?_)
  refine WL.op rfl (opW.assignI rfl ?_)
  refine WL.nil ?_
  refine thenQ_n (hK2 _ _ ?_)
  refine WC.seq (fun K3 hK3 => ?_)
  refine WC.seq (fun K4 hK4 => ?_)
  refine WC.region ?_
  refine WL.op rfl (opW.assignI rfl ?_)
  refine WL.nil ?_
  refine thenQ_n (hK4 _ _ ?_)
  refine WC.block ?_
  refine WC.loop (fun q f w => ∃ (k : Nat) (n : Int), Fits [(0, v), (3, .int .i64 n), (4, .int .i64 (k : Int))] f ∧ St w0 [] w ∧ (xs.length < 2000 ∨ n = xs.length) ∧ k ≤ xs.length ∧ q = xs.length - k) (xs.length) ?_ ?_
  ·
    exact ⟨0, _, ⟨rfl, rfl, rfl, trivial⟩, hS, .inr rfl, Nat.zero_le _, rfl⟩
  ·
    rintro q f w ⟨k, n, hfit, hS, hlo, hk0, hm⟩
    refine WC.fits _ hfit (fun g => ?_)
    clear hfit
    refine WC.seq (fun K5 hK5 => ?_)
    refine WC.seq (fun K6 hK6 => ?_)
    refine WC.region ?_
    refine WL.op rfl (opW.moveI rfl ?_)
    refine WL.op rfl (opW.moveV (v := v) rfl ?_)
    refine WL.op rfl (opW.lenV rfl ((hx.bel hS.old)) ?_)
    refine WL.op rfl (opW.lss rfl rfl ?_)
    refine WL.op rfl (opW.moveB rfl ?_)
    refine WL.gd _ 11 _ rfl rfl rfl rfl (fun hg12 => opW.moveI rfl ⟨rfl, Bel.refl _⟩) (fun w hw => ?_)
    replace hS := hS.bel hw
    refine WL.gd _ 11 _ rfl rfl rfl rfl (fun hg13 => opW.lss (by first | exact gv_of rfl hg13 | rfl) rfl ⟨rfl, Bel.refl _⟩) (fun w hw => ?_)
    replace hS := hS.bel hw
    refine WL.op rfl (opW.pickAnd rfl (by first | rfl) rfl ?_)
    refine WL.nil ?_
    refine thenQ_n (hK6 _ _ ?_)
    refine WC.cond _ rfl (fun hc0 => ?_) (fun hc0 => ?_)
    ·
      have hr0 := hc0
      try simp only [decide_eq_true_eq, decide_eq_false_iff_not, Bool.and_eq_true, Bool.or_eq_true, Bool.and_eq_false_iff, Bool.or_eq_false_iff, Bool.not_eq_true', Bool.not_eq_false', Int.not_lt, Int.not_le] at hc0
      simp only [Bool.and_eq_true, decide_eq_true_eq] at hr0
      have hkl : k < xs.length := by omega
      have hle := hx.le
      simp only [maxLen] at hle
      obtain ⟨_, _, kl, hkl2, _⟩ := hxo xs[k] (List.getElem_mem hkl)
      refine WC.skip ?_
      refine thenQ_n (hK5 _ _ ?_)
      refine WC.seq (fun K7 hK7 => ?_)
      refine WC.block ?_
      refine WC.region ?_
      refine WL.op rfl (opW.moveI rfl ?_)
      refine WL.op rfl (opW.moveV (v := v) rfl ?_)
      refine WL.op rfl (opW.moveI rfl ?_)
      refine WL.op rfl (opW.idxV rfl ((hx.bel hS.old)) rfl (by omega) ?_)
      refine WL.op rfl (opW.fieldAddr rfl ((hx.bel hS.old).isP hkl) ?_)
      refine WL.op rfl (opW.loadV rfl (Ld.pt1 ((hx.bel hS.old).isPt hkl) 2 (Asked.at_keys _)) ?_)
      refine WL.op rfl (opW.lenV rfl ((hkl2.bel hS.old)) ?_)
      refine WL.op rfl (opW.add rfl rfl (rfl) ?_)
      refine WL.op rfl (opW.assignI rfl ?_)
      refine WL.nil ?_
      refine blockQ_n ?_
      refine thenQ_n (hK7 _ _ ?_)
      refine WC.region ?_
      refine WL.op rfl (opW.moveI rfl ?_)
      refine WL.op rfl (opW.add rfl rfl (wrap_i64 (by omega)) ?_)
      refine WL.op rfl (opW.assignI rfl ?_)
      refine WL.nil ?_
      refine thenQ_n ?_
      exact ⟨xs.length - (k + 1), by omega, k + 1, _, ⟨rfl, rfl, congrArg (Value.int .i64) (by omega), trivial⟩, hS, .inl (by omega), by omega, rfl⟩
    ·
      have hr0 := hc0
      try simp only [decide_eq_true_eq, decide_eq_false_iff_not, Bool.and_eq_true, Bool.or_eq_true, Bool.and_eq_false_iff, Bool.or_eq_false_iff, Bool.not_eq_true', Bool.not_eq_false', Int.not_lt, Int.not_le] at hc0
      refine WC.exit ?_
      refine thenQ_e ?_
      refine thenQ_e ?_
      refine blockQ_hit ?_
      refine thenQ_n (hK3 _ _ ?_)
      refine WC.seq (fun K8 hK8 => ?_)
      refine WC.region ?_
      refine WL.op rfl (opW.moveI rfl ?_)
      refine WL.op rfl (opW.gtr rfl rfl ?_)
      refine WL.op rfl (opW.assignB rfl ?_)
      refine WL.nil ?_
      refine thenQ_n (hK8 _ _ ?_)
      refine WC.ret ?_
      refine bodyQ_ret (.tmpB rfl .nil) ?_
      refine ⟨_, rfl, fun h => ?_, hS.old⟩
      simp only [decide_eq_false_iff_not] at h
      omega

end Go.Fer
