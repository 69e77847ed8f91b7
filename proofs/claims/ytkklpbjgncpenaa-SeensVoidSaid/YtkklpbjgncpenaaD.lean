/- lives -/
import Derived.Test.YtkklpbjgncpenaaC
set_option linter.all false
namespace Go.Fer
open Go Go.Proofs Go.RowKit

@[irreducible] def gS (c : UInt8) : Sig := (vz 64).set 0 c
@[irreducible] def hH (c : UInt8) : Hash := (vz 32).set 0 c

theorem lives25 (w0 : World) : Ret Try.prog 6 #[] w0 (fun r w' => r = .bool true ∧ Bel w0 w') := by
  refine Ret.enter (args := []) Try.func6 rfl Try.ntmps6 Try.results6 rfl ?_
  have hS := St.start w0
  refine WC.seq (fun K1 hK1 => ?_)
  refine WC.region ?_
  refine WL.op rfl (opW.assignB rfl ?_)
  refine WL.nil ?_
  refine thenQ_n (hK1 _ _ ?_)
  refine WC.seq (fun K2 hK2 => ?_)
  refine WC.region ?_
  refine WL.op rfl (opW.buildVec (k := (hH 1)) (by first | rfl | (simp only [gS, hH, enc_vset, enc_vz]; rfl)) (by intro p hp; first | (exfalso; simp at hp; done) | (simp only [List.map_cons, List.map_nil, List.mem_cons, List.not_mem_nil, or_false] at hp; rcases hp with rfl | rfl | rfl | rfl <;> exact ⟨by simp, rfl⟩)) ?_)
  refine WL.op rfl (opW.allocA hS ?_)
  intro b1 w _ hS
  refine WL.op0 (opW.storeE hS rfl rfl (by first | exact .here | exact .there (.here) | exact .there (.there (.here)) | exact .there (.there (.there (.here))) | exact .there (.there (.there (.there (.here)))) | exact .there (.there (.there (.there (.there (.here))))) | exact .there (.there (.there (.there (.there (.there (.here)))))) | exact .there (.there (.there (.there (.there (.there (.there (.here))))))) | exact .there (.there (.there (.there (.there (.there (.there (.there (.here))))))))) (by first | rfl | exact Enc.size_eq _) ?_)
  intro w hS; replace hS := hS _ (by first | exact .here | exact .there (.here) | exact .there (.there (.here)) | exact .there (.there (.there (.here))) | exact .there (.there (.there (.there (.here)))) | exact .there (.there (.there (.there (.there (.here))))) | exact .there (.there (.there (.there (.there (.there (.here)))))) | exact .there (.there (.there (.there (.there (.there (.there (.here))))))) | exact .there (.there (.there (.there (.there (.there (.there (.there (.here)))))))))
  refine WL.nil ?_
  refine thenQ_n (hK2 _ _ ?_)
  refine WC.seq (fun K3 hK3 => ?_)
  refine WC.region ?_
  refine WL.op rfl (opW.buildVec (k := (hH 2)) (by first | rfl | (simp only [gS, hH, enc_vset, enc_vz]; rfl)) (by intro p hp; first | (exfalso; simp at hp; done) | (simp only [List.map_cons, List.map_nil, List.mem_cons, List.not_mem_nil, or_false] at hp; rcases hp with rfl | rfl | rfl | rfl <;> exact ⟨by simp, rfl⟩)) ?_)
  refine WL.op rfl (opW.allocA hS ?_)
  intro b2 w _ hS
  refine WL.op0 (opW.storeE hS rfl rfl (by first | exact .here | exact .there (.here) | exact .there (.there (.here)) | exact .there (.there (.there (.here))) | exact .there (.there (.there (.there (.here)))) | exact .there (.there (.there (.there (.there (.here))))) | exact .there (.there (.there (.there (.there (.there (.here)))))) | exact .there (.there (.there (.there (.there (.there (.there (.here))))))) | exact .there (.there (.there (.there (.there (.there (.there (.there (.here))))))))) (by first | rfl | exact Enc.size_eq _) ?_)
  intro w hS; replace hS := hS _ (by first | exact .here | exact .there (.here) | exact .there (.there (.here)) | exact .there (.there (.there (.here))) | exact .there (.there (.there (.there (.here)))) | exact .there (.there (.there (.there (.there (.here))))) | exact .there (.there (.there (.there (.there (.there (.here)))))) | exact .there (.there (.there (.there (.there (.there (.there (.here))))))) | exact .there (.there (.there (.there (.there (.there (.there (.there (.here)))))))))
  refine WL.nil ?_
  refine thenQ_n (hK3 _ _ ?_)
  refine WC.seq (fun K4 hK4 => ?_)
  refine WC.region ?_
  refine WL.op rfl (opW.call (new_ok _) rfl ?_)
  rintro _ w ⟨p, d0, rfl, hd0, hn, hw⟩
  replace hS := hS.newE hw hn
  refine WL.op rfl (opW.assignV (v := .pointer (some ⟨p, 0, none⟩)) rfl ?_)
  refine WL.nil ?_
  refine thenQ_n (hK4 _ _ ?_)
  refine WC.seq (fun K5 hK5 => ?_)
  refine WC.seq (fun K6 hK6 => ?_)
  refine WC.region ?_
  refine WL.op rfl (opW.moveV (v := .pointer (some ⟨p, 0, none⟩)) rfl ?_)
  refine WL.op rfl (opW.buildVec (k := (gS 1)) (by first | rfl | (simp only [gS, hH, enc_vset, enc_vz]; rfl)) (by intro p hp; first | (exfalso; simp at hp; done) | (simp only [List.map_cons, List.map_nil, List.mem_cons, List.not_mem_nil, or_false] at hp; rcases hp with rfl | rfl | rfl | rfl <;> exact ⟨by simp, rfl⟩)) ?_)
  refine WL.op rfl (opW.loadV rfl (hS.ldA (cs := Enc.enc (hH 1)) (by first | exact .here | exact .there (.here) | exact .there (.there (.here)) | exact .there (.there (.there (.here))) | exact .there (.there (.there (.there (.here)))) | exact .there (.there (.there (.there (.there (.here))))) | exact .there (.there (.there (.there (.there (.there (.here)))))) | exact .there (.there (.there (.there (.there (.there (.there (.here))))))) | exact .there (.there (.there (.there (.there (.there (.there (.there (.here))))))))) (Enc.size_eq _)) ?_)
  refine WL.op rfl (opW.call (mark_ok _ _ _ p d0 ([] : List (Sig × Hash)) (gS 1) (hH 1) (hS.pick (by first | exact .here | exact .there (.here) | exact .there (.there (.here)) | exact .there (.there (.there (.here))) | exact .there (.there (.there (.there (.here)))) | exact .there (.there (.there (.there (.there (.here))))) | exact .there (.there (.there (.there (.there (.there (.here)))))) | exact .there (.there (.there (.there (.there (.there (.there (.here))))))) | exact .there (.there (.there (.there (.there (.there (.there (.there (.here)))))))))) hd0 (by simp)) rfl ?_)
  rintro _ w ⟨d1, rfl, hd1, hS⟩
  rw [show markL ([] : List (Sig × Hash)) (gS 1) (hH 1) = ([((gS 1), (hH 1))] : List (Sig × Hash)) from by decide +kernel] at hd1 hS
  rw [show (if (aget (gS 1) ([] : List (Sig × Hash))).isSome = true then (28 : Int) else 0) = 0 from by decide +kernel]
  refine WL.op rfl (opW.boolF (by decide) (opW.neq rfl rfl ⟨rfl, rfl⟩) ?_)
  refine WL.op rfl (opW.moveB rfl ?_)
  refine WL.gT 12 rfl rfl rfl (WL.op rfl (opW.moveV (v := .pointer (some ⟨p, 0, none⟩)) rfl ?_))
  refine WL.gT 12 rfl rfl rfl (WL.op rfl (opW.buildVec (k := (gS 2)) (by first | rfl | (simp only [gS, hH, enc_vset, enc_vz]; rfl)) (by intro p hp; first | (exfalso; simp at hp; done) | (simp only [List.map_cons, List.map_nil, List.mem_cons, List.not_mem_nil, or_false] at hp; rcases hp with rfl | rfl | rfl | rfl <;> exact ⟨by simp, rfl⟩)) ?_))
  refine WL.gT 12 rfl rfl rfl (WL.op rfl (opW.loadV rfl (hS.ldA (cs := Enc.enc (hH 1)) (by first | exact .here | exact .there (.here) | exact .there (.there (.here)) | exact .there (.there (.there (.here))) | exact .there (.there (.there (.there (.here)))) | exact .there (.there (.there (.there (.there (.here))))) | exact .there (.there (.there (.there (.there (.there (.here)))))) | exact .there (.there (.there (.there (.there (.there (.there (.here))))))) | exact .there (.there (.there (.there (.there (.there (.there (.there (.here))))))))) (Enc.size_eq _)) ?_))
  refine WL.gT 12 rfl rfl rfl (WL.op rfl (opW.call (mark_ok _ _ _ p d1 ([((gS 1), (hH 1))] : List (Sig × Hash)) (gS 2) (hH 1) (hS.pick (by first | exact .here | exact .there (.here) | exact .there (.there (.here)) | exact .there (.there (.there (.here))) | exact .there (.there (.there (.there (.here)))) | exact .there (.there (.there (.there (.there (.here))))) | exact .there (.there (.there (.there (.there (.there (.here)))))) | exact .there (.there (.there (.there (.there (.there (.there (.here))))))) | exact .there (.there (.there (.there (.there (.there (.there (.there (.here)))))))))) hd1 (by simp)) rfl ?_))
  rintro _ w ⟨d2, rfl, hd2, hS⟩
  rw [show markL ([((gS 1), (hH 1))] : List (Sig × Hash)) (gS 2) (hH 1) = ([((gS 1), (hH 1)), ((gS 2), (hH 1))] : List (Sig × Hash)) from by decide +kernel] at hd2 hS
  rw [show (if (aget (gS 2) ([((gS 1), (hH 1))] : List (Sig × Hash))).isSome = true then (28 : Int) else 0) = 0 from by decide +kernel]
  refine WL.gT 12 rfl rfl rfl (WL.op rfl (opW.boolF (by decide) (opW.neq rfl rfl ⟨rfl, rfl⟩) ?_))
  refine WL.op rfl (opW.pickT rfl rfl ?_)
  refine WL.op rfl (opW.moveB rfl ?_)
  refine WL.gT 19 rfl rfl rfl (WL.op rfl (opW.moveV (v := .pointer (some ⟨p, 0, none⟩)) rfl ?_))
  refine WL.gT 19 rfl rfl rfl (WL.op rfl (opW.buildVec (k := (gS 3)) (by first | rfl | (simp only [gS, hH, enc_vset, enc_vz]; rfl)) (by intro p hp; first | (exfalso; simp at hp; done) | (simp only [List.map_cons, List.map_nil, List.mem_cons, List.not_mem_nil, or_false] at hp; rcases hp with rfl | rfl | rfl | rfl <;> exact ⟨by simp, rfl⟩)) ?_))
  refine WL.gT 19 rfl rfl rfl (WL.op rfl (opW.loadV rfl (hS.ldA (cs := Enc.enc (hH 2)) (by first | exact .here | exact .there (.here) | exact .there (.there (.here)) | exact .there (.there (.there (.here))) | exact .there (.there (.there (.there (.here)))) | exact .there (.there (.there (.there (.there (.here))))) | exact .there (.there (.there (.there (.there (.there (.here)))))) | exact .there (.there (.there (.there (.there (.there (.there (.here))))))) | exact .there (.there (.there (.there (.there (.there (.there (.there (.here))))))))) (Enc.size_eq _)) ?_))
  refine WL.gT 19 rfl rfl rfl (WL.op rfl (opW.call (mark_ok _ _ _ p d2 ([((gS 1), (hH 1)), ((gS 2), (hH 1))] : List (Sig × Hash)) (gS 3) (hH 2) (hS.pick (by first | exact .here | exact .there (.here) | exact .there (.there (.here)) | exact .there (.there (.there (.here))) | exact .there (.there (.there (.there (.here)))) | exact .there (.there (.there (.there (.there (.here))))) | exact .there (.there (.there (.there (.there (.there (.here)))))) | exact .there (.there (.there (.there (.there (.there (.there (.here))))))) | exact .there (.there (.there (.there (.there (.there (.there (.there (.here)))))))))) hd2 (by simp)) rfl ?_))
  rintro _ w ⟨d3, rfl, hd3, hS⟩
  rw [show markL ([((gS 1), (hH 1)), ((gS 2), (hH 1))] : List (Sig × Hash)) (gS 3) (hH 2) = ([((gS 1), (hH 1)), ((gS 2), (hH 1)), ((gS 3), (hH 2))] : List (Sig × Hash)) from by decide +kernel] at hd3 hS
  rw [show (if (aget (gS 3) ([((gS 1), (hH 1)), ((gS 2), (hH 1))] : List (Sig × Hash))).isSome = true then (28 : Int) else 0) = 0 from by decide +kernel]
  refine WL.gT 19 rfl rfl rfl (WL.op rfl (opW.boolF (by decide) (opW.neq rfl rfl ⟨rfl, rfl⟩) ?_))
  refine WL.op rfl (opW.pickT rfl rfl ?_)
  refine WL.op rfl (opW.moveB rfl ?_)
  refine WL.gT 26 rfl rfl rfl (WL.op rfl (opW.moveV (v := .pointer (some ⟨p, 0, none⟩)) rfl ?_))
  refine WL.gT 26 rfl rfl rfl (WL.op rfl (opW.buildVec (k := (gS 1)) (by first | rfl | (simp only [gS, hH, enc_vset, enc_vz]; rfl)) (by intro p hp; first | (exfalso; simp at hp; done) | (simp only [List.map_cons, List.map_nil, List.mem_cons, List.not_mem_nil, or_false] at hp; rcases hp with rfl | rfl | rfl | rfl <;> exact ⟨by simp, rfl⟩)) ?_))
  refine WL.gT 26 rfl rfl rfl (WL.op rfl (opW.loadV rfl (hS.ldA (cs := Enc.enc (hH 2)) (by first | exact .here | exact .there (.here) | exact .there (.there (.here)) | exact .there (.there (.there (.here))) | exact .there (.there (.there (.there (.here)))) | exact .there (.there (.there (.there (.there (.here))))) | exact .there (.there (.there (.there (.there (.there (.here)))))) | exact .there (.there (.there (.there (.there (.there (.there (.here))))))) | exact .there (.there (.there (.there (.there (.there (.there (.there (.here))))))))) (Enc.size_eq _)) ?_))
  refine WL.gT 26 rfl rfl rfl (WL.op rfl (opW.call (mark_ok _ _ _ p d3 ([((gS 1), (hH 1)), ((gS 2), (hH 1)), ((gS 3), (hH 2))] : List (Sig × Hash)) (gS 1) (hH 2) (hS.pick (by first | exact .here | exact .there (.here) | exact .there (.there (.here)) | exact .there (.there (.there (.here))) | exact .there (.there (.there (.there (.here)))) | exact .there (.there (.there (.there (.there (.here))))) | exact .there (.there (.there (.there (.there (.there (.here)))))) | exact .there (.there (.there (.there (.there (.there (.there (.here))))))) | exact .there (.there (.there (.there (.there (.there (.there (.there (.here)))))))))) hd3 (by simp)) rfl ?_))
  rintro _ w ⟨d4, rfl, hd4, hS⟩
  rw [show markL ([((gS 1), (hH 1)), ((gS 2), (hH 1)), ((gS 3), (hH 2))] : List (Sig × Hash)) (gS 1) (hH 2) = ([((gS 1), (hH 1)), ((gS 2), (hH 1)), ((gS 3), (hH 2))] : List (Sig × Hash)) from by decide +kernel] at hd4 hS
  rw [show (if (aget (gS 1) ([((gS 1), (hH 1)), ((gS 2), (hH 1)), ((gS 3), (hH 2))] : List (Sig × Hash))).isSome = true then (28 : Int) else 0) = 28 from by decide +kernel]
  refine WL.gT 26 rfl rfl rfl (WL.op rfl (opW.boolF (by decide) (opW.neq rfl rfl ⟨rfl, rfl⟩) ?_))
  refine WL.op rfl (opW.pickT rfl rfl ?_)
  refine WL.op rfl (opW.moveB rfl ?_)
  refine WL.gT 33 rfl rfl rfl (WL.op rfl (opW.moveV (v := .pointer (some ⟨p, 0, none⟩)) rfl ?_))
  refine WL.gT 33 rfl rfl rfl (WL.op rfl (opW.buildVec (k := (gS 2)) (by first | rfl | (simp only [gS, hH, enc_vset, enc_vz]; rfl)) (by intro p hp; first | (exfalso; simp at hp; done) | (simp only [List.map_cons, List.map_nil, List.mem_cons, List.not_mem_nil, or_false] at hp; rcases hp with rfl | rfl | rfl | rfl <;> exact ⟨by simp, rfl⟩)) ?_))
  refine WL.gT 33 rfl rfl rfl (WL.op rfl (opW.call (has_ok _ p d4 ([((gS 1), (hH 1)), ((gS 2), (hH 1)), ((gS 3), (hH 2))] : List (Sig × Hash)) (gS 2) (hS.seAt (by first | exact .here | exact .there (.here) | exact .there (.there (.here)) | exact .there (.there (.there (.here))) | exact .there (.there (.there (.there (.here)))) | exact .there (.there (.there (.there (.there (.here))))) | exact .there (.there (.there (.there (.there (.there (.here)))))) | exact .there (.there (.there (.there (.there (.there (.there (.here))))))) | exact .there (.there (.there (.there (.there (.there (.there (.there (.here))))))))))) rfl ?_))
  rintro _ w ⟨rfl, hw⟩; replace hS := hS.bel hw
  rw [show (aget (gS 2) ([((gS 1), (hH 1)), ((gS 2), (hH 1)), ((gS 3), (hH 2))] : List (Sig × Hash))).isSome = true from by decide +kernel]
  refine WL.gT 33 rfl rfl rfl (WL.op rfl (opW.not rfl ?_))
  refine WL.op rfl (opW.pickT rfl rfl ?_)
  refine WL.nil ?_
  refine thenQ_n (hK6 _ _ ?_)
  refine WC.cond _ rfl (fun hc0 => ?_) (fun hc0 => ?_)
  ·
    have hr0 := hc0
    try simp only [decide_eq_true_eq, decide_eq_false_iff_not, Bool.and_eq_true, Bool.or_eq_true, Bool.and_eq_false_iff, Bool.or_eq_false_iff, Bool.not_eq_true', Bool.not_eq_false', Int.not_lt, Int.not_le] at hc0
    exact absurd hr0 (by decide)
  ·
    have hr0 := hc0
    try simp only [decide_eq_true_eq, decide_eq_false_iff_not, Bool.and_eq_true, Bool.or_eq_true, Bool.and_eq_false_iff, Bool.or_eq_false_iff, Bool.not_eq_true', Bool.not_eq_false', Int.not_lt, Int.not_le] at hc0
    refine WC.skip ?_
    refine thenQ_n (hK5 _ _ ?_)
    refine WC.seq (fun K7 hK7 => ?_)
    refine WC.region ?_
    refine WL.op rfl (opW.moveV (v := .pointer (some ⟨p, 0, none⟩)) rfl ?_)
    refine WL.op rfl (opW.loadV rfl (hS.ldA (cs := Enc.enc (hH 1)) (by first | exact .here | exact .there (.here) | exact .there (.there (.here)) | exact .there (.there (.there (.here))) | exact .there (.there (.there (.there (.here)))) | exact .there (.there (.there (.there (.there (.here))))) | exact .there (.there (.there (.there (.there (.there (.here)))))) | exact .there (.there (.there (.there (.there (.there (.there (.here))))))) | exact .there (.there (.there (.there (.there (.there (.there (.there (.here))))))))) (Enc.size_eq _)) ?_)
    refine WL.op rfl (opW.call (forget_ok _ _ _ p d4 ([((gS 1), (hH 1)), ((gS 2), (hH 1)), ((gS 3), (hH 2))] : List (Sig × Hash)) (hH 1) (hS.pick (by first | exact .here | exact .there (.here) | exact .there (.there (.here)) | exact .there (.there (.there (.here))) | exact .there (.there (.there (.there (.here)))) | exact .there (.there (.there (.there (.there (.here))))) | exact .there (.there (.there (.there (.there (.there (.here)))))) | exact .there (.there (.there (.there (.there (.there (.there (.here))))))) | exact .there (.there (.there (.there (.there (.there (.there (.there (.here)))))))))) hd4) rfl ?_)
    rintro _ w ⟨d5, rfl, hd5, hS⟩
    rw [show forgetL ([((gS 1), (hH 1)), ((gS 2), (hH 1)), ((gS 3), (hH 2))] : List (Sig × Hash)) (hH 1) = ([((gS 3), (hH 2))] : List (Sig × Hash)) from by decide +kernel] at hd5 hS
    rw [show ((ofH ([((gS 1), (hH 1)), ((gS 2), (hH 1)), ((gS 3), (hH 2))] : List (Sig × Hash)) (hH 1)).length : Int) = 2 from by decide +kernel]
    refine WL.op rfl (opW.boolT (by decide) (opW.eql rfl rfl ⟨rfl, rfl⟩) ?_)
    refine WL.op rfl (opW.moveB rfl ?_)
    refine WL.gT 43 rfl rfl rfl (WL.op rfl (opW.moveV (v := .pointer (some ⟨p, 0, none⟩)) rfl ?_))
    refine WL.gT 43 rfl rfl rfl (WL.op rfl (opW.buildVec (k := (gS 2)) (by first | rfl | (simp only [gS, hH, enc_vset, enc_vz]; rfl)) (by intro p hp; first | (exfalso; simp at hp; done) | (simp only [List.map_cons, List.map_nil, List.mem_cons, List.not_mem_nil, or_false] at hp; rcases hp with rfl | rfl | rfl | rfl <;> exact ⟨by simp, rfl⟩)) ?_))
    refine WL.gT 43 rfl rfl rfl (WL.op rfl (opW.call (has_ok _ p d5 ([((gS 3), (hH 2))] : List (Sig × Hash)) (gS 2) (hS.seAt (by first | exact .here | exact .there (.here) | exact .there (.there (.here)) | exact .there (.there (.there (.here))) | exact .there (.there (.there (.there (.here)))) | exact .there (.there (.there (.there (.there (.here))))) | exact .there (.there (.there (.there (.there (.there (.here)))))) | exact .there (.there (.there (.there (.there (.there (.there (.here))))))) | exact .there (.there (.there (.there (.there (.there (.there (.there (.here))))))))))) rfl ?_))
    rintro _ w ⟨rfl, hw⟩; replace hS := hS.bel hw
    rw [show (aget (gS 2) ([((gS 3), (hH 2))] : List (Sig × Hash))).isSome = false from by decide +kernel]
    refine WL.gT 43 rfl rfl rfl (WL.op rfl (opW.not rfl ?_))
    refine WL.op rfl (opW.pickT rfl rfl ?_)
    refine WL.op rfl (opW.moveB rfl ?_)
    refine WL.gT 49 rfl rfl rfl (WL.op rfl (opW.moveV (v := .pointer (some ⟨p, 0, none⟩)) rfl ?_))
    refine WL.gT 49 rfl rfl rfl (WL.op rfl (opW.buildVec (k := (gS 1)) (by first | rfl | (simp only [gS, hH, enc_vset, enc_vz]; rfl)) (by intro p hp; first | (exfalso; simp at hp; done) | (simp only [List.map_cons, List.map_nil, List.mem_cons, List.not_mem_nil, or_false] at hp; rcases hp with rfl | rfl | rfl | rfl <;> exact ⟨by simp, rfl⟩)) ?_))
    refine WL.gT 49 rfl rfl rfl (WL.op rfl (opW.loadV rfl (hS.ldA (cs := Enc.enc (hH 2)) (by first | exact .here | exact .there (.here) | exact .there (.there (.here)) | exact .there (.there (.there (.here))) | exact .there (.there (.there (.there (.here)))) | exact .there (.there (.there (.there (.there (.here))))) | exact .there (.there (.there (.there (.there (.there (.here)))))) | exact .there (.there (.there (.there (.there (.there (.there (.here))))))) | exact .there (.there (.there (.there (.there (.there (.there (.there (.here))))))))) (Enc.size_eq _)) ?_))
    refine WL.gT 49 rfl rfl rfl (WL.op rfl (opW.call (mark_ok _ _ _ p d5 ([((gS 3), (hH 2))] : List (Sig × Hash)) (gS 1) (hH 2) (hS.pick (by first | exact .here | exact .there (.here) | exact .there (.there (.here)) | exact .there (.there (.there (.here))) | exact .there (.there (.there (.there (.here)))) | exact .there (.there (.there (.there (.there (.here))))) | exact .there (.there (.there (.there (.there (.there (.here)))))) | exact .there (.there (.there (.there (.there (.there (.there (.here))))))) | exact .there (.there (.there (.there (.there (.there (.there (.there (.here)))))))))) hd5 (by simp)) rfl ?_))
    rintro _ w ⟨d6, rfl, hd6, hS⟩
    rw [show markL ([((gS 3), (hH 2))] : List (Sig × Hash)) (gS 1) (hH 2) = ([((gS 3), (hH 2)), ((gS 1), (hH 2))] : List (Sig × Hash)) from by decide +kernel] at hd6 hS
    rw [show (if (aget (gS 1) ([((gS 3), (hH 2))] : List (Sig × Hash))).isSome = true then (28 : Int) else 0) = 0 from by decide +kernel]
    refine WL.gT 49 rfl rfl rfl (WL.op rfl (opW.boolT (by decide) (opW.eql rfl rfl ⟨rfl, rfl⟩) ?_))
    refine WL.op rfl (opW.pickT rfl rfl ?_)
    refine WL.op rfl (opW.moveB rfl ?_)
    refine WL.gT 56 rfl rfl rfl (WL.op rfl (opW.moveV (v := .pointer (some ⟨p, 0, none⟩)) rfl ?_))
    refine WL.gT 56 rfl rfl rfl (WL.op rfl (opW.call (len_ok _ p d6 ([((gS 3), (hH 2)), ((gS 1), (hH 2))] : List (Sig × Hash)) (hS.seAt (by first | exact .here | exact .there (.here) | exact .there (.there (.here)) | exact .there (.there (.there (.here))) | exact .there (.there (.there (.there (.here)))) | exact .there (.there (.there (.there (.there (.here))))) | exact .there (.there (.there (.there (.there (.there (.here)))))) | exact .there (.there (.there (.there (.there (.there (.there (.here))))))) | exact .there (.there (.there (.there (.there (.there (.there (.there (.here))))))))))) rfl ?_))
    rintro _ w ⟨rfl, hw⟩; replace hS := hS.bel hw
    refine WL.gT 56 rfl rfl rfl (WL.op rfl (opW.boolT (by decide) (opW.eql rfl rfl ⟨rfl, rfl⟩) ?_))
    refine WL.op rfl (opW.pickT rfl rfl ?_)
    refine WL.op rfl (opW.assignB rfl ?_)
    refine WL.nil ?_
    refine thenQ_n (hK7 _ _ ?_)
    refine WC.ret ?_
    refine bodyQ_ret (.tmpB rfl .nil) ?_
    exact ⟨rfl, hS.old⟩

end Go.Fer
