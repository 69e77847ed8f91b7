/- TrackersHold -/
import Derived.Test.YtinclpfoiljioaaD
set_option linter.all false
namespace Go.Fer
open Go Go.Proofs Go.RowKit

def HoldI (mx : Limits) (d : TrD) : Prop := d.lim = mx ∧ TrOk d ∧ d.block ≤ mx.block ∧ d.space ≤ mx.space ∧ ∀ k, d.ofK k ≤ mx.account ∧ d.ofK k ≤ d.block
theorem sumH_ge {a c : Nat} (ha : a < 18446744073709551616) (hc : c ≤ 18446744073709551615) : a ≤ sumH a c ∧ c ≤ sumH a c := by unfold sumH; split <;> omega
theorem sumH_mono {a b c : Nat} (h : a ≤ b) : sumH a c ≤ sumH b c := by unfold sumH; split <;> split <;> omega
theorem would_zero {d : TrD} {cost : Nat} {keys : List Key} {space : Nat} (h : wouldC d cost keys space = 0) : sumH d.block cost ≤ d.lim.block ∧ (∀ k ∈ keys, sumH (d.ofK k) cost ≤ d.lim.account) ∧ sumH d.space space ≤ d.lim.space := by
  unfold wouldC at h
  split at h
  · cases h
  · split at h
    · cases h
    · rename_i h1 h2
      split at h
      · cases h
      · refine ⟨by omega, fun k hk => ?_, by omega⟩
        rw [Bool.not_eq_true, List.any_eq_false] at h2
        have := h2 k hk
        simp only [decide_eq_true_eq] at this
        omega
theorem HoldI.step {mx : Limits} {d d' : TrD} {cost : Nat} {keys : List Key} {space : Nat} (hI : HoldI mx d) (hc : cost ≤ 18446744073709551615) (hs : space ≤ 18446744073709551615) (hz : wouldC d cost keys space = 0) (ha : AddIs d cost keys space d') :
    HoldI mx d' ∧ d.block ≤ d'.block ∧ cost ≤ d'.block ∧ space ≤ d'.space ∧ ∀ k ∈ keys, cost ≤ d'.ofK k := by
  obtain ⟨h1, h2, h3, h4, h5⟩ := hI
  obtain ⟨z1, z2, z3⟩ := would_zero hz
  have hok := ha.ok h2
  obtain ⟨a1, a2, a3, a4⟩ := ha
  rw [h1] at z1 z2 z3
  have b1 := sumH_ge h2.1 hc
  have b2 := sumH_ge h2.2.1 hs
  refine ⟨⟨a1.trans h1, hok, by omega, by omega, fun k => ?_⟩, by omega, by omega, by omega, fun k hk => ?_⟩
  · rw [a4 k, a2]
    split
    · rename_i hk
      exact ⟨z2 k hk, sumH_mono (h5 k).2⟩
    · exact ⟨(h5 k).1, Nat.le_trans (h5 k).2 b1.1⟩
  · rw [a4 k, if_pos hk]
    exact (sumH_ge (h2.2.2 k) hc).2

theorem hold_law (w0 : World) (mx : Limits) (v : Value) (xs : List Asked) (hmx : Limits.ok w0 mx) (hx : SlR w0 v xs) (hxo : ∀ x ∈ xs, Asked.ok w0 x) : Ret Try.prog 5 #[.agg (Enc.enc mx), v] w0 (fun r w' => r = .bool true ∧ Bel w0 w') := by
  refine Ret.enter (args := [.agg (Enc.enc mx), v]) Try.func5 rfl Try.ntmps5 Try.results5 rfl ?_
  have hS := St.start w0
  refine WC.seq (fun K1 hK1 => ?_)
  refine WC.region ?_
  refine WL.op rfl (opW.boxA hS rfl ?_)
  intro b2 w _ hS
  refine WL.op rfl (opW.assignB rfl ?_)
  refine WL.nil ?_
  refine thenQ_n (hK1 _ _ ?_)
  refine WC.seq (fun K2 hK2 => ?_)
  refine WC.seq (fun K3 hK3 => ?_)
  refine WC.region ?_
  refine WL.op rfl (opW.moveV (v := v) rfl ?_)
  refine WL.op rfl (opW.call (great20 _ v xs (hx.bel hS.old) (fun x h => Asked.ok.bel hS.old (hxo x h))) rfl ?_)
  rintro _ w ⟨bb, rfl, hbb, hw⟩; replace hS := hS.bel hw
  refine WL.nil ?_
  refine thenQ_n (hK3 _ _ ?_)
  refine WC.cond _ rfl (fun hc0 => ?_) (fun hc0 => ?_)
  ·
    have hr0 := hc0
    try simp only [decide_eq_true_eq, decide_eq_false_iff_not, Bool.and_eq_true, Bool.or_eq_true, Bool.and_eq_false_iff, Bool.or_eq_false_iff, Bool.not_eq_true', Bool.not_eq_false', Int.not_lt, Int.not_le] at hc0
    refine WC.seq (fun K4 hK4 => ?_)
    refine WC.region ?_
    refine WL.op rfl (opW.call (lives20 _) rfl ?_)
    rintro _ w ⟨rfl, hw⟩; replace hS := hS.bel hw
    refine WL.op rfl (opW.assignB rfl ?_)
    refine WL.nil ?_
    refine thenQ_n (hK4 _ _ ?_)
    refine WC.ret ?_
    refine thenQ_r ?_
    refine bodyQ_ret (.tmpB rfl .nil) ?_
    exact ⟨rfl, hS.old⟩
  ·
    have hr0 := hc0
    try simp only [decide_eq_true_eq, decide_eq_false_iff_not, Bool.and_eq_true, Bool.or_eq_true, Bool.and_eq_false_iff, Bool.or_eq_false_iff, Bool.not_eq_true', Bool.not_eq_false', Int.not_lt, Int.not_le] at hc0
    refine WC.skip ?_
    refine thenQ_n (hK2 _ _ ?_)
    refine WC.seq (fun K5 hK5 => ?_)
    refine WC.region ?_
    refine WL.op rfl (opW.loadV rfl (hS.ldA (cs := Enc.enc mx) (by first | exact .here | exact .there (.here) | exact .there (.there (.here)) | exact .there (.there (.there (.here))) | exact .there (.there (.there (.there (.here)))) | exact .there (.there (.there (.there (.there (.here))))) | exact .there (.there (.there (.there (.there (.there (.here)))))) | exact .there (.there (.there (.there (.there (.there (.there (.here))))))) | exact .there (.there (.there (.there (.there (.there (.there (.there (.here))))))))) (Enc.size_eq _)) ?_)
    refine WL.op rfl (opW.call (new_ok _ mx) rfl ?_)
    rintro _ w ⟨p, d0, rfl, hl0, hb0, hs0, ho0, hn0, hw⟩
    replace hS := hS.newE hw hn0
    refine WL.op rfl (opW.assignV (v := .pointer (some ⟨p, 0, none⟩)) rfl ?_)
    refine WL.nil ?_
    refine thenQ_n (hK5 _ _ ?_)
    refine WC.seq (fun K6 hK6 => ?_)
    refine WC.seq (fun K7 hK7 => ?_)
    refine WC.region ?_
    refine WL.op rfl (opW.assignI rfl ?_)
    refine WL.nil ?_
    refine thenQ_n (hK7 _ _ ?_)
    refine WC.block ?_
    refine WC.loop (fun q f w => ∃ (i : Nat) (d : TrD), Fits [(1, v), (2, .pointer (some ⟨b2, 0, none⟩)), (5, .pointer (some ⟨p, 0, none⟩)), (6, .int .i64 (i : Int))] f ∧ St w0 [trE p d, blkE b2 (Enc.enc mx) 24] w ∧ HoldI mx d ∧ i ≤ xs.length ∧ q = xs.length - i) (xs.length) ?_ ?_
    ·
      exact ⟨0, d0, ⟨rfl, rfl, rfl, rfl, trivial⟩, hS, ⟨hl0, ⟨by rw [hb0]; decide, by rw [hs0]; decide, fun k => by rw [ho0]; decide⟩, by rw [hb0]; exact Nat.zero_le _, by rw [hs0]; exact Nat.zero_le _, fun k => by rw [ho0]; exact ⟨Nat.zero_le _, Nat.zero_le _⟩⟩, Nat.zero_le _, rfl⟩
    ·
      rintro q f w ⟨i, d, hfit, hS, hI, hi0, hm⟩
      refine WC.fits _ hfit (fun g => ?_)
      clear hfit
      refine WC.seq (fun K8 hK8 => ?_)
      refine WC.seq (fun K9 hK9 => ?_)
      refine WC.region ?_
      refine WL.op rfl (opW.moveI rfl ?_)
      refine WL.op rfl (opW.moveV (v := v) rfl ?_)
      refine WL.op rfl (opW.lenV rfl ((hx.bel hS.old)) ?_)
      refine WL.op rfl (opW.lss rfl rfl ?_)
      refine WL.nil ?_
      refine thenQ_n (hK9 _ _ ?_)
      refine WC.cond _ rfl (fun hc1 => ?_) (fun hc1 => ?_)
      ·
        have hr1 := hc1
        try simp only [decide_eq_true_eq, decide_eq_false_iff_not, Bool.and_eq_true, Bool.or_eq_true, Bool.and_eq_false_iff, Bool.or_eq_false_iff, Bool.not_eq_true', Bool.not_eq_false', Int.not_lt, Int.not_le] at hc1
        have hil : i < xs.length := by omega
        have hle := hx.le
        simp only [maxLen] at hle
        obtain ⟨hci, hsi, kl, hkl, _⟩ := hxo xs[i] (List.getElem_mem hil)
        have hklle := hkl.le
        simp only [maxLen] at hklle
        obtain ⟨hm1, hm2, hm3⟩ := hmx
        have hdb := hI.2.1.1
        refine WC.skip ?_
        refine thenQ_n (hK8 _ _ ?_)
        refine WC.seq (fun K10 hK10 => ?_)
        refine WC.block ?_
        refine WC.seq (fun K11 hK11 => ?_)
        refine WC.region ?_
        refine WL.op rfl (opW.moveV (v := v) rfl ?_)
        refine WL.op rfl (opW.moveI rfl ?_)
        refine WL.op rfl (opW.idxV rfl ((hx.bel hS.old)) rfl (by omega) ?_)
        refine WL.op rfl (opW.loadV rfl (((hx.bel hS.old).isPt hil).ldA (Enc.size_eq xs[i])) ?_)
        refine WL.op rfl (opW.allocA hS ?_)
        intro b7 w _ hS
        refine WL.op0 (opW.storeE hS rfl rfl (by first | exact .here | exact .there (.here) | exact .there (.there (.here)) | exact .there (.there (.there (.here))) | exact .there (.there (.there (.there (.here)))) | exact .there (.there (.there (.there (.there (.here))))) | exact .there (.there (.there (.there (.there (.there (.here)))))) | exact .there (.there (.there (.there (.there (.there (.there (.here))))))) | exact .there (.there (.there (.there (.there (.there (.there (.there (.here))))))))) (by first | rfl | exact Enc.size_eq _) ?_)
        intro w hS; replace hS := hS _ (by first | exact .here | exact .there (.here) | exact .there (.there (.here)) | exact .there (.there (.there (.here))) | exact .there (.there (.there (.there (.here)))) | exact .there (.there (.there (.there (.there (.here))))) | exact .there (.there (.there (.there (.there (.there (.here)))))) | exact .there (.there (.there (.there (.there (.there (.there (.here))))))) | exact .there (.there (.there (.there (.there (.there (.there (.there (.here)))))))))
        refine WL.nil ?_
        refine thenQ_n (hK11 _ _ ?_)
        refine WC.seq (fun K12 hK12 => ?_)
        refine WC.region ?_
        refine WL.op rfl (opW.moveV (v := .pointer (some ⟨p, 0, none⟩)) rfl ?_)
        refine WL.op rfl (opW.call (block_ok _ p d (hS.trAt (by first | exact .here | exact .there (.here) | exact .there (.there (.here)) | exact .there (.there (.there (.here))) | exact .there (.there (.there (.there (.here)))) | exact .there (.there (.there (.there (.there (.here))))) | exact .there (.there (.there (.there (.there (.there (.here)))))) | exact .there (.there (.there (.there (.there (.there (.there (.here))))))) | exact .there (.there (.there (.there (.there (.there (.there (.there (.here))))))))))) rfl ?_)
        rintro _ w ⟨rfl, hw⟩; replace hS := hS.bel hw
        refine WL.op rfl (opW.assignI rfl ?_)
        refine WL.nil ?_
        refine thenQ_n (hK12 _ _ ?_)
        refine WC.seq (fun K13 hK13 => ?_)
        refine WC.region ?_
        refine WL.op rfl (opW.moveV (v := .pointer (some ⟨p, 0, none⟩)) rfl ?_)
        refine WL.op rfl (opW.call (space_ok _ p d (hS.trAt (by first | exact .here | exact .there (.here) | exact .there (.there (.here)) | exact .there (.there (.there (.here))) | exact .there (.there (.there (.there (.here)))) | exact .there (.there (.there (.there (.there (.here))))) | exact .there (.there (.there (.there (.there (.there (.here)))))) | exact .there (.there (.there (.there (.there (.there (.there (.here))))))) | exact .there (.there (.there (.there (.there (.there (.there (.there (.here))))))))))) rfl ?_)
        rintro _ w ⟨rfl, hw⟩; replace hS := hS.bel hw
        refine WL.op rfl (opW.assignI rfl ?_)
        refine WL.nil ?_
        refine thenQ_n (hK13 _ _ ?_)
        refine WC.seq (fun K14 hK14 => ?_)
        refine WC.region ?_
        refine WL.op rfl (opW.moveV (v := .pointer (some ⟨p, 0, none⟩)) rfl ?_)
        refine WL.op rfl (opW.fieldAddrB rfl ?_)
        refine WL.op rfl (opW.loadV rfl (hS.ld1 (by first | exact .here | exact .there (.here) | exact .there (.there (.here)) | exact .there (.there (.there (.here))) | exact .there (.there (.there (.there (.here)))) | exact .there (.there (.there (.there (.there (.here))))) | exact .there (.there (.there (.there (.there (.there (.here)))))) | exact .there (.there (.there (.there (.there (.there (.there (.here))))))) | exact .there (.there (.there (.there (.there (.there (.there (.there (.here))))))))) (Asked.at_cost _)) ?_)
        refine WL.op rfl (opW.fieldAddrB rfl ?_)
        refine WL.op rfl (opW.loadV rfl (hS.ld1 (by first | exact .here | exact .there (.here) | exact .there (.there (.here)) | exact .there (.there (.there (.here))) | exact .there (.there (.there (.there (.here)))) | exact .there (.there (.there (.there (.there (.here))))) | exact .there (.there (.there (.there (.there (.there (.here)))))) | exact .there (.there (.there (.there (.there (.there (.there (.here))))))) | exact .there (.there (.there (.there (.there (.there (.there (.there (.here))))))))) (Asked.at_keys _)) ?_)
        refine WL.op rfl (opW.fieldAddrB rfl ?_)
        refine WL.op rfl (opW.loadV rfl (hS.ld1 (by first | exact .here | exact .there (.here) | exact .there (.there (.here)) | exact .there (.there (.there (.here))) | exact .there (.there (.there (.there (.here)))) | exact .there (.there (.there (.there (.there (.here))))) | exact .there (.there (.there (.there (.there (.there (.here)))))) | exact .there (.there (.there (.there (.there (.there (.there (.here))))))) | exact .there (.there (.there (.there (.there (.there (.there (.there (.here))))))))) (Asked.at_space _)) ?_)
        refine WL.op rfl (opW.call (would_ok _ p d xs[i].cost kl xs[i].space xs[i].keys.v (hS.trAt (by first | exact .here | exact .there (.here) | exact .there (.there (.here)) | exact .there (.there (.there (.here))) | exact .there (.there (.there (.there (.here)))) | exact .there (.there (.there (.there (.there (.here))))) | exact .there (.there (.there (.there (.there (.there (.here)))))) | exact .there (.there (.there (.there (.there (.there (.there (.here))))))) | exact .there (.there (.there (.there (.there (.there (.there (.there (.here)))))))))) hI.2.1 (hkl.bel hS.old)) rfl ?_)
        rintro _ w ⟨rfl, hw⟩; replace hS := hS.bel hw
        refine WL.op rfl (opW.assignI rfl ?_)
        refine WL.nil ?_
        refine thenQ_n (hK14 _ _ ?_)
        refine WC.seq (fun K15 hK15 => ?_)
        refine WC.region ?_
        refine WL.op rfl (opW.assignI rfl ?_)
        refine WL.nil ?_
        refine thenQ_n (hK15 _ _ ?_)
        refine WC.mid (fun f w => ∃ ov : Int, Fits [(1, v), (2, .pointer (some ⟨b2, 0, none⟩)), (5, .pointer (some ⟨p, 0, none⟩)), (6, .int .i64 (i : Int)), (7, .pointer (some ⟨b7, 0, none⟩)), (8, .int .u64 (d.block : Int)), (9, .int .u64 (d.space : Int)), (10, .int .i64 (wouldC d xs[i].cost kl xs[i].space)), (11, .int .i64 ov)] f ∧ St w0 [blkE b7 (Enc.enc xs[i]) 36, trE p d, blkE b2 (Enc.enc mx) 24] w ∧ (ov = 24 → mx.block ≠ 18446744073709551615 → (wouldC d xs[i].cost kl xs[i].space) = 24)) ?_ ?_
        ·
          refine WC.seq (fun K16 hK16 => ?_)
          refine WC.region ?_
          refine WL.op rfl (opW.moveI rfl ?_)
          refine WL.op rfl (opW.fieldAddrB rfl ?_)
          refine WL.op rfl (opW.loadV rfl (hS.ld1 (by first | exact .here | exact .there (.here) | exact .there (.there (.here)) | exact .there (.there (.there (.here))) | exact .there (.there (.there (.there (.here)))) | exact .there (.there (.there (.there (.there (.here))))) | exact .there (.there (.there (.there (.there (.there (.here)))))) | exact .there (.there (.there (.there (.there (.there (.there (.here))))))) | exact .there (.there (.there (.there (.there (.there (.there (.there (.here))))))))) (Asked.at_cost _)) ?_)
          refine WL.op rfl (opW.add rfl rfl (wrap_u64_add _ _) ?_)
          refine WL.op rfl (opW.moveI rfl ?_)
          refine WL.op rfl (opW.lss rfl rfl ?_)
          refine WL.op rfl (opW.moveB rfl ?_)
          refine WL.gd _ 46 _ rfl rfl rfl rfl (fun hg47 => opW.moveI rfl ⟨rfl, Bel.refl _⟩) (fun w hw => ?_)
          replace hS := hS.bel hw
          refine WL.gd _ 46 _ rfl rfl rfl rfl (fun hg48 => opW.fieldAddrB rfl ⟨rfl, Bel.refl _⟩) (fun w hw => ?_)
          replace hS := hS.bel hw
          refine WL.gd _ 46 _ rfl rfl rfl rfl (fun hg49 => opW.loadV (by first | exact gv_of rfl hg49 | rfl) (hS.ld1 (by first | exact .here | exact .there (.here) | exact .there (.there (.here)) | exact .there (.there (.there (.here))) | exact .there (.there (.there (.there (.here)))) | exact .there (.there (.there (.there (.there (.here))))) | exact .there (.there (.there (.there (.there (.there (.here)))))) | exact .there (.there (.there (.there (.there (.there (.there (.here))))))) | exact .there (.there (.there (.there (.there (.there (.there (.there (.here))))))))) (Asked.at_cost _)) ⟨rfl, Bel.refl _⟩) (fun w hw => ?_)
          replace hS := hS.bel hw
          refine WL.gd _ 46 _ rfl rfl rfl rfl (fun hg50 => opW.add (by first | exact gv_of rfl hg50 | rfl) (by first | exact gv_of rfl hg50 | rfl) (wrap_u64_add _ _) ⟨rfl, Bel.refl _⟩) (fun w hw => ?_)
          replace hS := hS.bel hw
          refine WL.gd _ 46 _ rfl rfl rfl rfl (fun hg51 => opW.fieldAddrB rfl ⟨rfl, Bel.refl _⟩) (fun w hw => ?_)
          replace hS := hS.bel hw
          refine WL.gd _ 46 _ rfl rfl rfl rfl (fun hg52 => opW.loadV (by first | exact gv_of rfl hg52 | rfl) (hS.ld1 (by first | exact .here | exact .there (.here) | exact .there (.there (.here)) | exact .there (.there (.there (.here))) | exact .there (.there (.there (.there (.here)))) | exact .there (.there (.there (.there (.there (.here))))) | exact .there (.there (.there (.there (.there (.there (.here)))))) | exact .there (.there (.there (.there (.there (.there (.there (.here))))))) | exact .there (.there (.there (.there (.there (.there (.there (.there (.here))))))))) (Limits.at_block _)) ⟨rfl, Bel.refl _⟩) (fun w hw => ?_)
          replace hS := hS.bel hw
          refine WL.gd _ 46 _ rfl rfl rfl rfl (fun hg53 => opW.gtr (by first | exact gv_of rfl hg53 | rfl) (by first | exact gv_of rfl hg53 | rfl) ⟨rfl, Bel.refl _⟩) (fun w hw => ?_)
          replace hS := hS.bel hw
          refine WL.op rfl (opW.pickOr rfl rfl (by first | rfl) ?_)
          refine WL.nil ?_
          refine thenQ_n (hK16 _ _ ?_)
          refine WC.cond _ rfl (fun hc2 => ?_) (fun hc2 => ?_)
          ·
            have hr2 := hc2
            try simp only [decide_eq_true_eq, decide_eq_false_iff_not, Bool.and_eq_true, Bool.or_eq_true, Bool.and_eq_false_iff, Bool.or_eq_false_iff, Bool.not_eq_true', Bool.not_eq_false', Int.not_lt, Int.not_le] at hc2
            refine WC.region ?_
            refine WL.op rfl (opW.assignI rfl ?_)
            refine WL.nil ?_
            refine thenQ_n ?_
            first | exact ⟨24, ⟨rfl, rfl, rfl, rfl, rfl, rfl, rfl, rfl, rfl, trivial⟩, hS.sub (by repeat (first | with_reducible exact List.nil_sublist _ | with_reducible exact List.Sublist.refl _ | with_reducible refine List.Sublist.cons₂ _ ?_ | with_reducible refine List.Sublist.cons _ ?_)), fun _ hne => if_pos (show d.lim.block < sumH d.block xs[i].cost from by simp only [Bool.or_eq_true, decide_eq_true_eq] at hr2; rw [hI.1]; unfold sumH; split <;> omega)⟩ | exact ⟨0, ⟨rfl, rfl, rfl, rfl, rfl, rfl, rfl, rfl, rfl, trivial⟩, hS.sub (by repeat (first | with_reducible exact List.nil_sublist _ | with_reducible exact List.Sublist.refl _ | with_reducible refine List.Sublist.cons₂ _ ?_ | with_reducible refine List.Sublist.cons _ ?_)), fun h => by cases h⟩
          ·
            have hr2 := hc2
            try simp only [decide_eq_true_eq, decide_eq_false_iff_not, Bool.and_eq_true, Bool.or_eq_true, Bool.and_eq_false_iff, Bool.or_eq_false_iff, Bool.not_eq_true', Bool.not_eq_false', Int.not_lt, Int.not_le] at hc2
            refine WC.skip ?_
            refine thenQ_n ?_
            first | exact ⟨24, ⟨rfl, rfl, rfl, rfl, rfl, rfl, rfl, rfl, rfl, trivial⟩, hS.sub (by repeat (first | with_reducible exact List.nil_sublist _ | with_reducible exact List.Sublist.refl _ | with_reducible refine List.Sublist.cons₂ _ ?_ | with_reducible refine List.Sublist.cons _ ?_)), fun _ hne => if_pos (show d.lim.block < sumH d.block xs[i].cost from by simp only [Bool.or_eq_true, decide_eq_true_eq] at hr2; rw [hI.1]; unfold sumH; split <;> omega)⟩ | exact ⟨0, ⟨rfl, rfl, rfl, rfl, rfl, rfl, rfl, rfl, rfl, trivial⟩, hS.sub (by repeat (first | with_reducible exact List.nil_sublist _ | with_reducible exact List.Sublist.refl _ | with_reducible refine List.Sublist.cons₂ _ ?_ | with_reducible refine List.Sublist.cons _ ?_)), fun h => by cases h⟩
        ·
          rintro f w ⟨ov, hfit, hS, hov⟩
          refine WC.fits _ hfit (fun g => ?_)
          clear hfit
          refine WC.seq (fun K17 hK17 => ?_)
          refine WC.seq (fun K18 hK18 => ?_)
          refine WC.region ?_
          refine WL.op rfl (opW.moveI rfl ?_)
          refine WL.op rfl (opW.eql rfl rfl ?_)
          refine WL.op rfl (opW.moveB rfl ?_)
          refine WL.gd _ 57 _ rfl rfl rfl rfl (fun hg58 => opW.fieldAddrB rfl ⟨rfl, Bel.refl _⟩) (fun w hw => ?_)
          replace hS := hS.bel hw
          refine WL.gd _ 57 _ rfl rfl rfl rfl (fun hg59 => opW.loadV (by first | exact gv_of rfl hg59 | rfl) (hS.ld1 (by first | exact .here | exact .there (.here) | exact .there (.there (.here)) | exact .there (.there (.there (.here))) | exact .there (.there (.there (.there (.here)))) | exact .there (.there (.there (.there (.there (.here))))) | exact .there (.there (.there (.there (.there (.there (.here)))))) | exact .there (.there (.there (.there (.there (.there (.there (.here))))))) | exact .there (.there (.there (.there (.there (.there (.there (.there (.here))))))))) (Limits.at_block _)) ⟨rfl, Bel.refl _⟩) (fun w hw => ?_)
          replace hS := hS.bel hw
          refine WL.gd _ 57 _ rfl rfl rfl rfl (fun hg60 => opW.neq (by first | exact gv_of rfl hg60 | rfl) rfl ⟨rfl, Bel.refl _⟩) (fun w hw => ?_)
          replace hS := hS.bel hw
          refine WL.op rfl (opW.pickAnd rfl (by first | rfl) rfl ?_)
          refine WL.op rfl (opW.moveB rfl ?_)
          refine WL.gd _ 62 _ rfl rfl rfl rfl (fun hg63 => opW.moveI rfl ⟨rfl, Bel.refl _⟩) (fun w hw => ?_)
          replace hS := hS.bel hw
          refine WL.gd _ 62 _ rfl rfl rfl rfl (fun hg64 => opW.moveI rfl ⟨rfl, Bel.refl _⟩) (fun w hw => ?_)
          replace hS := hS.bel hw
          refine WL.gd _ 62 _ rfl rfl rfl rfl (fun hg65 => opW.neq (by first | exact gv_of rfl hg65 | rfl) (by first | exact gv_of rfl hg65 | rfl) ⟨rfl, Bel.refl _⟩) (fun w hw => ?_)
          replace hS := hS.bel hw
          refine WL.op rfl (opW.pickAnd rfl (by first | rfl) rfl ?_)
          refine WL.nil ?_
          refine thenQ_n (hK18 _ _ ?_)
          refine WC.cond _ rfl (fun hc3 => ?_) (fun hc3 => ?_)
          ·
            have hr3 := hc3
            try simp only [decide_eq_true_eq, decide_eq_false_iff_not, Bool.and_eq_true, Bool.or_eq_true, Bool.and_eq_false_iff, Bool.or_eq_false_iff, Bool.not_eq_true', Bool.not_eq_false', Int.not_lt, Int.not_le] at hc3
            exfalso
            simp only [Bool.and_eq_true, decide_eq_true_eq, Bool.not_eq_true', decide_eq_false_iff_not] at hr3
            obtain ⟨⟨h1, h2⟩, h3⟩ := hr3
            exact h3 ((hov h1 (by omega)).trans h1.symm)
          ·
            have hr3 := hc3
            try simp only [decide_eq_true_eq, decide_eq_false_iff_not, Bool.and_eq_true, Bool.or_eq_true, Bool.and_eq_false_iff, Bool.or_eq_false_iff, Bool.not_eq_true', Bool.not_eq_false', Int.not_lt, Int.not_le] at hc3
            refine WC.skip ?_
            refine thenQ_n (hK17 _ _ ?_)
            refine WC.seq (fun K19 hK19 => ?_)
            refine WC.seq (fun K20 hK20 => ?_)
            refine WC.region ?_
            refine WL.op rfl (opW.moveV (v := .pointer (some ⟨p, 0, none⟩)) rfl ?_)
            refine WL.op rfl (opW.fieldAddrB rfl ?_)
            refine WL.op rfl (opW.loadV rfl (hS.ld1 (by first | exact .here | exact .there (.here) | exact .there (.there (.here)) | exact .there (.there (.there (.here))) | exact .there (.there (.there (.there (.here)))) | exact .there (.there (.there (.there (.there (.here))))) | exact .there (.there (.there (.there (.there (.there (.here)))))) | exact .there (.there (.there (.there (.there (.there (.there (.here))))))) | exact .there (.there (.there (.there (.there (.there (.there (.there (.here))))))))) (Asked.at_cost _)) ?_)
            refine WL.op rfl (opW.fieldAddrB rfl ?_)
            refine WL.op rfl (opW.loadV rfl (hS.ld1 (by first | exact .here | exact .there (.here) | exact .there (.there (.here)) | exact .there (.there (.there (.here))) | exact .there (.there (.there (.there (.here)))) | exact .there (.there (.there (.there (.there (.here))))) | exact .there (.there (.there (.there (.there (.there (.here)))))) | exact .there (.there (.there (.there (.there (.there (.there (.here))))))) | exact .there (.there (.there (.there (.there (.there (.there (.there (.here))))))))) (Asked.at_keys _)) ?_)
            refine WL.op rfl (opW.fieldAddrB rfl ?_)
            refine WL.op rfl (opW.loadV rfl (hS.ld1 (by first | exact .here | exact .there (.here) | exact .there (.there (.here)) | exact .there (.there (.there (.here))) | exact .there (.there (.there (.there (.here)))) | exact .there (.there (.there (.there (.there (.here))))) | exact .there (.there (.there (.there (.there (.there (.here)))))) | exact .there (.there (.there (.there (.there (.there (.there (.here))))))) | exact .there (.there (.there (.there (.there (.there (.there (.there (.here))))))))) (Asked.at_space _)) ?_)
            refine WL.op rfl (opW.call (add_ok _ _ [blkE b7 (Enc.enc xs[i]) 36, blkE b2 (Enc.enc mx) 24] p d xs[i].cost kl xs[i].space xs[i].keys.v (hS.pick (by first | exact .here | exact .there (.here) | exact .there (.there (.here)) | exact .there (.there (.there (.here))) | exact .there (.there (.there (.there (.here)))) | exact .there (.there (.there (.there (.there (.here))))) | exact .there (.there (.there (.there (.there (.there (.here)))))) | exact .there (.there (.there (.there (.there (.there (.there (.here))))))) | exact .there (.there (.there (.there (.there (.there (.there (.there (.here)))))))))) hI.2.1 (fun w h => hkl.bel h.old)) rfl ?_)
            rintro _ w ⟨d2, rfl, hadd, hsame, hok2, hS⟩
            refine WL.op rfl (opW.moveI rfl ?_)
            refine WL.op rfl (opW.boolF (by simp) (opW.neq rfl rfl ⟨rfl, rfl⟩) ?_)
            refine WL.op rfl (opW.moveB rfl ?_)
            refine WL.gT 77 rfl rfl rfl (WL.op rfl (opW.moveI rfl ?_))
            refine WL.gT 77 rfl rfl rfl (WL.op rfl (opW.neq rfl rfl ?_))
            refine WL.gT 77 rfl rfl rfl (WL.op rfl (opW.moveB rfl ?_))
            refine WL.gd _ 80 _ rfl rfl rfl rfl (fun hg81 => opW.moveV (v := .pointer (some ⟨p, 0, none⟩)) rfl ⟨rfl, Bel.refl _⟩) (fun w hw => ?_)
            replace hS := hS.bel hw
            refine WL.gd _ 80 (.int .u64 (d2.block : Int)) rfl rfl rfl rfl (fun hg82 => ?_) (fun w hw => ?_)
            · refine opW.call (block_ok _ p d2 (hS.trAt (by first | exact .here | exact .there (.here) | exact .there (.there (.here)) | exact .there (.there (.there (.here))) | exact .there (.there (.there (.there (.here)))) | exact .there (.there (.there (.there (.there (.here))))) | exact .there (.there (.there (.there (.there (.there (.here)))))) | exact .there (.there (.there (.there (.there (.there (.there (.here))))))) | exact .there (.there (.there (.there (.there (.there (.there (.there (.here))))))))))) (args1 (by first | exact gv_of rfl hg82 | rfl)) ?_
              rintro _ w ⟨rfl, hw⟩; replace hS := hS.bel hw
              exact ⟨rfl, ‹_›⟩
            replace hS := hS.bel hw
            refine WL.gd _ 80 _ rfl rfl rfl rfl (fun hg83 => opW.moveI rfl ⟨rfl, Bel.refl _⟩) (fun w hw => ?_)
            replace hS := hS.bel hw
            refine WL.gd _ 80 _ rfl rfl rfl rfl (fun hg84 => opW.neq (by first | exact gv_of rfl hg84 | rfl) (by first | exact gv_of rfl hg84 | rfl) ⟨rfl, Bel.refl _⟩) (fun w hw => ?_)
            replace hS := hS.bel hw
            refine WL.gd _ 80 _ rfl rfl rfl rfl (fun hg85 => opW.moveB (by first | exact gv_of rfl hg85 | rfl) ⟨rfl, Bel.refl _⟩) (fun w hw => ?_)
            replace hS := hS.bel hw
            refine WL.gd2 _ _ 85 _ rfl rfl rfl rfl (fun hg86 => opW.moveV (v := .pointer (some ⟨p, 0, none⟩)) rfl ⟨rfl, Bel.refl _⟩) (fun w hw => ?_)
            replace hS := hS.bel hw
            refine WL.gd2 _ _ 85 (.int .u64 (d2.space : Int)) rfl rfl rfl rfl (fun hg87 => ?_) (fun w hw => ?_)
            · refine opW.call (space_ok _ p d2 (hS.trAt (by first | exact .here | exact .there (.here) | exact .there (.there (.here)) | exact .there (.there (.there (.here))) | exact .there (.there (.there (.there (.here)))) | exact .there (.there (.there (.there (.there (.here))))) | exact .there (.there (.there (.there (.there (.there (.here)))))) | exact .there (.there (.there (.there (.there (.there (.there (.here))))))) | exact .there (.there (.there (.there (.there (.there (.there (.there (.here))))))))))) (args1 (by first | exact gv_of rfl hg87 | rfl)) ?_
              rintro _ w ⟨rfl, hw⟩; replace hS := hS.bel hw
              exact ⟨rfl, ‹_›⟩
            replace hS := hS.bel hw
            refine WL.gd2 _ _ 85 _ rfl rfl rfl rfl (fun hg88 => opW.moveI rfl ⟨rfl, Bel.refl _⟩) (fun w hw => ?_)
            replace hS := hS.bel hw
            refine WL.gd2 _ _ 85 _ rfl rfl rfl rfl (fun hg89 => opW.neq (by first | exact gv_of rfl hg89 | rfl) (by first | exact gv_of rfl hg89 | rfl) ⟨rfl, Bel.refl _⟩) (fun w hw => ?_)
            replace hS := hS.bel hw
            refine WL.gd _ 80 _ rfl rfl rfl rfl (fun hg90 => opW.pickOr (by first | rfl | exact gv_of rfl hg90) rfl (by first | rfl | exact gv_and rfl hg90) ⟨rfl, Bel.refl _⟩) (fun w hw => ?_)
            replace hS := hS.bel hw
            refine WL.gT 77 rfl rfl rfl (WL.op rfl (opW.pickAnd rfl (by first | rfl) rfl ?_))
            refine WL.op rfl (opW.pickT rfl rfl ?_)
            refine WL.nil ?_
            refine thenQ_n (hK20 _ _ ?_)
            refine WC.cond _ rfl (fun hc4 => ?_) (fun hc4 => ?_)
            ·
              have hr4 := hc4
              try simp only [decide_eq_true_eq, decide_eq_false_iff_not, Bool.and_eq_true, Bool.or_eq_true, Bool.and_eq_false_iff, Bool.or_eq_false_iff, Bool.not_eq_true', Bool.not_eq_false', Int.not_lt, Int.not_le] at hc4
              exfalso
              simp only [Bool.and_eq_true, Bool.or_eq_true, decide_eq_true_eq, Bool.not_eq_true', decide_eq_false_iff_not] at hr4
              obtain ⟨h1, h2⟩ := hr4
              rw [hsame h1] at h2
              rcases h2 with h2 | h2 <;> exact h2 rfl
            ·
              have hr4 := hc4
              try simp only [decide_eq_true_eq, decide_eq_false_iff_not, Bool.and_eq_true, Bool.or_eq_true, Bool.and_eq_false_iff, Bool.or_eq_false_iff, Bool.not_eq_true', Bool.not_eq_false', Int.not_lt, Int.not_le] at hc4
              refine WC.skip ?_
              refine thenQ_n (hK19 _ _ ?_)
              refine WC.seq (fun K21 hK21 => ?_)
              refine WC.seq (fun K22 hK22 => ?_)
              refine WC.draw 36 (.look 0 (.look 2 (.look 3 (.one 1 (.look 4 (.look 5 (.look 6 (.look 8 (.look 9 (.one 7 (.look 10 (.look 11 (.look 12 (.look 13 (.look 14 (.look 15 (.look 16 (.look 18 (.one 17 (.look 19 (.look 20 (.look 21 (.look 23 (.look 24 (.one 22 (.look 25 (.look 26 (.look 27 (.look 28 (.look 30 (.look 31 (.one 29 (.look 32 (.look 33 (.look 34 (.look 35 .nil)))))))))))))))))))))))))))))))))))) (by kernel_rfl) (fun _ _ _ h => h) (fun w1 hw1 => ?_)
              replace hS := hS.bel hw1
              have hS1 := hS
              have hT := St.start w1
              have hge : (wouldC d xs[i].cost kl xs[i].space) = 0 → d.block ≤ d2.block ∧ xs[i].cost ≤ d2.block ∧ xs[i].space ≤ d2.space ∧ ∀ k ∈ kl, xs[i].cost ≤ d2.ofK k := fun h => (hI.step hci hsi h (hadd h)).2
              have hI2 : HoldI mx d2 := by
                by_cases h : (wouldC d xs[i].cost kl xs[i].space) = 0
                · exact (hI.step hci hsi h (hadd h)).1
                · rw [hsame h]; exact hI
              refine ML.look rfl rfl rfl (fun w hw => (by have hS := hS1.bel hw; exact opW.moveV (v := .pointer (some ⟨p, 0, none⟩)) rfl ⟨rfl, rfl⟩)) ?_
              refine ML.look rfl rfl rfl (fun w hw => (by have hS := hS1.bel hw; exact opW.fieldAddrB rfl ⟨rfl, rfl⟩)) ?_
              refine ML.look rfl rfl rfl (fun w hw => (by have hS := hS1.bel hw; exact opW.loadV rfl (hS.ld1 (by first | exact .here | exact .there (.here) | exact .there (.there (.here)) | exact .there (.there (.there (.here))) | exact .there (.there (.there (.there (.here)))) | exact .there (.there (.there (.there (.there (.here))))) | exact .there (.there (.there (.there (.there (.there (.here)))))) | exact .there (.there (.there (.there (.there (.there (.there (.here))))))) | exact .there (.there (.there (.there (.there (.there (.there (.there (.here))))))))) (Limits.at_block _)) ⟨rfl, rfl⟩)) ?_
              refine ML.one rfl rfl rfl (opW.call (block_ok _ p d2 (hS.trAt (by first | exact .here | exact .there (.here) | exact .there (.there (.here)) | exact .there (.there (.there (.here))) | exact .there (.there (.there (.there (.here)))) | exact .there (.there (.there (.there (.there (.here))))) | exact .there (.there (.there (.there (.there (.there (.here)))))) | exact .there (.there (.there (.there (.there (.there (.there (.here))))))) | exact .there (.there (.there (.there (.there (.there (.there (.there (.here))))))))))) rfl ?_)
              rintro _ w ⟨rfl, hw⟩; replace hT := hT.bel hw
              refine ⟨hT.old, ?_⟩
              have hS := hS1.merge hT
              try simp only [List.cons_append, List.nil_append] at hS
              refine ML.look rfl rfl rfl (fun w hw => (by have hS := hS1.bel hw; exact opW.boolF (decide_eq_false (by have := hI2.2.2.1; omega)) (opW.gtr rfl rfl ⟨rfl, rfl⟩) ⟨rfl, rfl⟩)) ?_
              refine ML.look rfl rfl rfl (fun w hw => (by have hS := hS1.bel hw; exact opW.moveB rfl ⟨rfl, rfl⟩)) ?_
              refine ML.lookT 98 rfl rfl rfl rfl rfl rfl (fun w hw => (by have hS := hS1.bel hw; exact opW.moveV (v := .pointer (some ⟨p, 0, none⟩)) rfl ⟨rfl, rfl⟩)) ?_
              refine ML.lookT 98 rfl rfl rfl rfl rfl rfl (fun w hw => (by have hS := hS1.bel hw; exact opW.fieldAddrB rfl ⟨rfl, rfl⟩)) ?_
              refine ML.lookT 98 rfl rfl rfl rfl rfl rfl (fun w hw => (by have hS := hS1.bel hw; exact opW.loadV rfl (hS.ld1 (by first | exact .here | exact .there (.here) | exact .there (.there (.here)) | exact .there (.there (.there (.here))) | exact .there (.there (.there (.there (.here)))) | exact .there (.there (.there (.there (.there (.here))))) | exact .there (.there (.there (.there (.there (.there (.here)))))) | exact .there (.there (.there (.there (.there (.there (.there (.here))))))) | exact .there (.there (.there (.there (.there (.there (.there (.there (.here))))))))) (Limits.at_space _)) ⟨rfl, rfl⟩)) ?_
              refine ML.oneT 98 rfl rfl rfl rfl rfl rfl (opW.call (space_ok _ p d2 (hS.trAt (by first | exact .here | exact .there (.here) | exact .there (.there (.here)) | exact .there (.there (.there (.here))) | exact .there (.there (.there (.there (.here)))) | exact .there (.there (.there (.there (.there (.here))))) | exact .there (.there (.there (.there (.there (.there (.here)))))) | exact .there (.there (.there (.there (.there (.there (.there (.here))))))) | exact .there (.there (.there (.there (.there (.there (.there (.there (.here))))))))))) rfl ?_)
              rintro _ w ⟨rfl, hw⟩; replace hT := hT.bel hw
              refine ⟨hT.old, ?_⟩
              have hS := hS1.merge hT
              try simp only [List.cons_append, List.nil_append] at hS
              refine ML.lookT 98 rfl rfl rfl rfl rfl rfl (fun w hw => (by have hS := hS1.bel hw; exact opW.boolF (decide_eq_false (by have := hI2.2.2.2.1; omega)) (opW.gtr rfl rfl ⟨rfl, rfl⟩) ⟨rfl, rfl⟩)) ?_
              refine ML.look rfl rfl rfl (fun w hw => (by have hS := hS1.bel hw; exact opW.pickT rfl rfl ⟨rfl, rfl⟩)) ?_
              refine ML.look rfl rfl rfl (fun w hw => (by have hS := hS1.bel hw; exact opW.moveB rfl ⟨rfl, rfl⟩)) ?_
              refine ML.lookT 105 rfl rfl rfl rfl rfl rfl (fun w hw => (by have hS := hS1.bel hw; exact opW.moveI rfl ⟨rfl, rfl⟩)) ?_
              refine ML.lookT 105 rfl rfl rfl rfl rfl rfl (fun w hw => (by have hS := hS1.bel hw; exact opW.eql rfl rfl ⟨rfl, rfl⟩)) ?_
              refine ML.lookT 105 rfl rfl rfl rfl rfl rfl (fun w hw => (by have hS := hS1.bel hw; exact opW.moveB rfl ⟨rfl, rfl⟩)) ?_
              refine ML.lookG  _ 108 rfl rfl rfl rfl rfl rfl (fun hg109 w hw => (by have hS := hS1.bel hw; exact opW.moveV (v := .pointer (some ⟨p, 0, none⟩)) rfl ⟨rfl, rfl⟩)) ?_
              refine ML.lookG  _ 108 rfl rfl rfl rfl rfl rfl (fun hg111 w hw => (by have hS := hS1.bel hw; exact opW.moveI rfl ⟨rfl, rfl⟩)) ?_
              refine ML.oneG ((.int .u64 (d2.block : Int))) _ 108 hT.old rfl rfl rfl rfl rfl rfl (fun hg110 => opW.call (block_ok _ p d2 (hS.trAt (by first | exact .here | exact .there (.here) | exact .there (.there (.here)) | exact .there (.there (.there (.here))) | exact .there (.there (.there (.there (.here)))) | exact .there (.there (.there (.there (.there (.here))))) | exact .there (.there (.there (.there (.there (.there (.here)))))) | exact .there (.there (.there (.there (.there (.there (.there (.here))))))) | exact .there (.there (.there (.there (.there (.there (.there (.there (.here))))))))))) (args1 (by first | exact gv_of rfl hg110 | rfl)) (fun _ _ h => h)) (fun w hw => ?_)
              replace hT := hT.bel hw
              have hS := hS1.merge hT
              try simp only [List.cons_append, List.nil_append] at hS
              refine ML.lookG  _ 108 rfl rfl rfl rfl rfl rfl (fun hg112 w hw => (by have hS := hS1.bel hw; exact opW.lss (by first | exact gv_of rfl hg112 | rfl) (by first | exact gv_of rfl hg112 | rfl) ⟨rfl, rfl⟩)) ?_
              refine ML.lookG  _ 108 rfl rfl rfl rfl rfl rfl (fun hg113 w hw => (by have hS := hS1.bel hw; exact opW.moveB (by first | exact gv_of rfl hg113 | rfl) ⟨rfl, rfl⟩)) ?_
              refine ML.lookG2 _  _ 113 rfl rfl rfl rfl rfl rfl (fun hg114 w hw => (by have hS := hS1.bel hw; exact opW.moveV (v := .pointer (some ⟨p, 0, none⟩)) rfl ⟨rfl, rfl⟩)) ?_
              refine ML.lookG2 _  _ 113 rfl rfl rfl rfl rfl rfl (fun hg116 w hw => (by have hS := hS1.bel hw; exact opW.fieldAddrB rfl ⟨rfl, rfl⟩)) ?_
              refine ML.lookG2 _  _ 113 rfl rfl rfl rfl rfl rfl (fun hg117 w hw => (by have hS := hS1.bel hw; exact opW.loadV (by first | exact gv_of rfl hg117 | rfl) (hS.ld1 (by first | exact .here | exact .there (.here) | exact .there (.there (.here)) | exact .there (.there (.there (.here))) | exact .there (.there (.there (.there (.here)))) | exact .there (.there (.there (.there (.there (.here))))) | exact .there (.there (.there (.there (.there (.there (.here)))))) | exact .there (.there (.there (.there (.there (.there (.there (.here))))))) | exact .there (.there (.there (.there (.there (.there (.there (.there (.here))))))))) (Asked.at_cost _)) ⟨rfl, rfl⟩)) ?_
              refine ML.oneG2 ((.int .u64 (d2.block : Int))) _ _ 113 hT.old rfl rfl rfl rfl rfl rfl (fun hg115 => opW.call (block_ok _ p d2 (hS.trAt (by first | exact .here | exact .there (.here) | exact .there (.there (.here)) | exact .there (.there (.there (.here))) | exact .there (.there (.there (.there (.here)))) | exact .there (.there (.there (.there (.there (.here))))) | exact .there (.there (.there (.there (.there (.there (.here)))))) | exact .there (.there (.there (.there (.there (.there (.there (.here))))))) | exact .there (.there (.there (.there (.there (.there (.there (.there (.here))))))))))) (args1 (by first | exact gv_of rfl hg115 | rfl)) (fun _ _ h => h)) (fun w hw => ?_)
              replace hT := hT.bel hw
              have hS := hS1.merge hT
              try simp only [List.cons_append, List.nil_append] at hS
              refine ML.lookG2 _  _ 113 rfl rfl rfl rfl rfl rfl (fun hg118 w hw => (by have hS := hS1.bel hw; exact opW.lss (by first | exact gv_of rfl hg118 | rfl) (by first | exact gv_of rfl hg118 | rfl) ⟨rfl, rfl⟩)) ?_
              refine ML.lookG  _ 108 rfl rfl rfl rfl rfl rfl (fun hg119 w hw => (by have hS := hS1.bel hw; exact opW.pickOr (by first | rfl | exact gv_of rfl hg119) rfl (by first | rfl | exact gv_and rfl hg119) ⟨rfl, rfl⟩)) ?_
              refine ML.lookG  _ 108 rfl rfl rfl rfl rfl rfl (fun hg120 w hw => (by have hS := hS1.bel hw; exact opW.moveB (by first | exact gv_of rfl hg120 | rfl) ⟨rfl, rfl⟩)) ?_
              refine ML.lookG2 _  _ 120 rfl rfl rfl rfl rfl rfl (fun hg121 w hw => (by have hS := hS1.bel hw; exact opW.moveV (v := .pointer (some ⟨p, 0, none⟩)) rfl ⟨rfl, rfl⟩)) ?_
              refine ML.lookG2 _  _ 120 rfl rfl rfl rfl rfl rfl (fun hg123 w hw => (by have hS := hS1.bel hw; exact opW.fieldAddrB rfl ⟨rfl, rfl⟩)) ?_
              refine ML.lookG2 _  _ 120 rfl rfl rfl rfl rfl rfl (fun hg124 w hw => (by have hS := hS1.bel hw; exact opW.loadV (by first | exact gv_of rfl hg124 | rfl) (hS.ld1 (by first | exact .here | exact .there (.here) | exact .there (.there (.here)) | exact .there (.there (.there (.here))) | exact .there (.there (.there (.there (.here)))) | exact .there (.there (.there (.there (.there (.here))))) | exact .there (.there (.there (.there (.there (.there (.here)))))) | exact .there (.there (.there (.there (.there (.there (.there (.here))))))) | exact .there (.there (.there (.there (.there (.there (.there (.there (.here))))))))) (Asked.at_space _)) ⟨rfl, rfl⟩)) ?_
              refine ML.oneG2 ((.int .u64 (d2.space : Int))) _ _ 120 hT.old rfl rfl rfl rfl rfl rfl (fun hg122 => opW.call (space_ok _ p d2 (hS.trAt (by first | exact .here | exact .there (.here) | exact .there (.there (.here)) | exact .there (.there (.there (.here))) | exact .there (.there (.there (.there (.here)))) | exact .there (.there (.there (.there (.there (.here))))) | exact .there (.there (.there (.there (.there (.there (.here)))))) | exact .there (.there (.there (.there (.there (.there (.there (.here))))))) | exact .there (.there (.there (.there (.there (.there (.there (.there (.here))))))))))) (args1 (by first | exact gv_of rfl hg122 | rfl)) (fun _ _ h => h)) (fun w hw => ?_)
              replace hT := hT.bel hw
              have hS := hS1.merge hT
              try simp only [List.cons_append, List.nil_append] at hS
              refine ML.lookG2 _  _ 120 rfl rfl rfl rfl rfl rfl (fun hg125 w hw => (by have hS := hS1.bel hw; exact opW.lss (by first | exact gv_of rfl hg125 | rfl) (by first | exact gv_of rfl hg125 | rfl) ⟨rfl, rfl⟩)) ?_
              refine ML.lookG  _ 108 rfl rfl rfl rfl rfl rfl (fun hg126 w hw => (by have hS := hS1.bel hw; exact opW.pickOr (by first | rfl | exact gv_of rfl hg126) rfl (by first | rfl | exact gv_and rfl hg126) ⟨rfl, rfl⟩)) ?_
              refine ML.lookT 105 rfl rfl rfl rfl rfl rfl (fun w hw => (by have hS := hS1.bel hw; exact opW.pickAnd (by first | rfl | exact gv_of rfl hg127) (by first | rfl | exact gv_and rfl hg127) rfl ⟨rfl, rfl⟩)) ?_
              refine ML.look rfl rfl rfl (fun w hw => (by have hS := hS1.bel hw; exact opW.pickT rfl rfl ⟨rfl, rfl⟩)) ?_
              refine ML.nil ?_
              refine thenQ_n (hK22 _ _ ?_)
              refine WC.cond _ rfl (fun hc5 => ?_) (fun hc5 => ?_)
              ·
                have hr5 := hc5
                try simp only [decide_eq_true_eq, decide_eq_false_iff_not, Bool.and_eq_true, Bool.or_eq_true, Bool.and_eq_false_iff, Bool.or_eq_false_iff, Bool.not_eq_true', Bool.not_eq_false', Int.not_lt, Int.not_le] at hc5
                exfalso
                simp only [Bool.and_eq_true, Bool.or_eq_true, decide_eq_true_eq] at hr5
                obtain ⟨h1, h2⟩ := hr5
                have h3 := hge h1
                omega
              ·
                have hr5 := hc5
                try simp only [decide_eq_true_eq, decide_eq_false_iff_not, Bool.and_eq_true, Bool.or_eq_true, Bool.and_eq_false_iff, Bool.or_eq_false_iff, Bool.not_eq_true', Bool.not_eq_false', Int.not_lt, Int.not_le] at hc5
                refine WC.skip ?_
                refine thenQ_n (hK21 _ _ ?_)
                refine WC.seq (fun K23 hK23 => ?_)
                refine WC.region ?_
                refine WL.op rfl (opW.assignI rfl ?_)
                refine WL.nil ?_
                refine thenQ_n (hK23 _ _ ?_)
                refine WC.block ?_
                refine WC.loop (fun q2 f w => ∃ k : Nat, Fits [(1, v), (2, .pointer (some ⟨b2, 0, none⟩)), (5, .pointer (some ⟨p, 0, none⟩)), (6, .int .i64 (i : Int)), (7, .pointer (some ⟨b7, 0, none⟩)), (10, .int .i64 (wouldC d xs[i].cost kl xs[i].space)), (12, .int .i64 (k : Int))] f ∧ St w0 [trE p d2, blkE b7 (Enc.enc xs[i]) 36, blkE b2 (Enc.enc mx) 24] w ∧ k ≤ kl.length ∧ q2 = kl.length - k) (kl.length) ?_ ?_
                ·
                  exact ⟨0, ⟨rfl, rfl, rfl, rfl, rfl, rfl, rfl, trivial⟩, hS, Nat.zero_le _, rfl⟩
                ·
                  rintro q2 f w ⟨k, hfit, hS, hk0, hm2⟩
                  refine WC.fits _ hfit (fun g => ?_)
                  clear hfit
                  refine WC.seq (fun K24 hK24 => ?_)
                  refine WC.seq (fun K25 hK25 => ?_)
                  refine WC.region ?_
                  refine WL.op rfl (opW.moveI rfl ?_)
                  refine WL.op rfl (opW.fieldAddrB rfl ?_)
                  refine WL.op rfl (opW.loadV rfl (hS.ld1 (by first | exact .here | exact .there (.here) | exact .there (.there (.here)) | exact .there (.there (.there (.here))) | exact .there (.there (.there (.there (.here)))) | exact .there (.there (.there (.there (.there (.here))))) | exact .there (.there (.there (.there (.there (.there (.here)))))) | exact .there (.there (.there (.there (.there (.there (.there (.here))))))) | exact .there (.there (.there (.there (.there (.there (.there (.there (.here))))))))) (Asked.at_keys _)) ?_)
                  refine WL.op rfl (opW.lenV rfl ((hkl.bel hS.old)) ?_)
                  refine WL.op rfl (opW.lss rfl rfl ?_)
                  refine WL.nil ?_
                  refine thenQ_n (hK25 _ _ ?_)
                  refine WC.cond _ rfl (fun hc6 => ?_) (fun hc6 => ?_)
                  ·
                    have hr6 := hc6
                    try simp only [decide_eq_true_eq, decide_eq_false_iff_not, Bool.and_eq_true, Bool.or_eq_true, Bool.and_eq_false_iff, Bool.or_eq_false_iff, Bool.not_eq_true', Bool.not_eq_false', Int.not_lt, Int.not_le] at hc6
                    have hkk : k < kl.length := by omega
                    refine WC.skip ?_
                    refine thenQ_n (hK24 _ _ ?_)
                    refine WC.seq (fun K26 hK26 => ?_)
                    refine WC.block ?_
                    refine WC.seq (fun K27 hK27 => ?_)
                    refine WC.draw 38 (.look 0 (.look 1 (.look 2 (.look 3 (.look 4 (.look 5 (.look 7 (.look 8 (.one 6 (.look 9 (.look 10 (.look 11 (.look 12 (.look 13 (.look 14 (.look 15 (.look 16 (.look 17 (.look 18 (.look 19 (.look 21 (.look 22 (.one 20 (.look 23 (.look 24 (.look 25 (.look 26 (.look 27 (.look 28 (.look 29 (.look 30 (.look 31 (.look 32 (.look 34 (.one 33 (.one 35 (.look 36 (.look 37 .nil)))))))))))))))))))))))))))))))))))))) (by kernel_rfl) (fun _ _ _ h => h) (fun w1 hw1 => ?_)
                    replace hS := hS.bel hw1
                    have hS1 := hS
                    have hT := St.start w1
                    refine ML.look rfl rfl rfl (fun w hw => (by have hS := hS1.bel hw; exact opW.moveV (v := .pointer (some ⟨p, 0, none⟩)) rfl ⟨rfl, rfl⟩)) ?_
                    refine ML.look rfl rfl rfl (fun w hw => (by have hS := hS1.bel hw; exact opW.fieldAddrB rfl ⟨rfl, rfl⟩)) ?_
                    refine ML.look rfl rfl rfl (fun w hw => (by have hS := hS1.bel hw; exact opW.loadV rfl (hS.ld1 (by first | exact .here | exact .there (.here) | exact .there (.there (.here)) | exact .there (.there (.there (.here))) | exact .there (.there (.there (.there (.here)))) | exact .there (.there (.there (.there (.there (.here))))) | exact .there (.there (.there (.there (.there (.there (.here)))))) | exact .there (.there (.there (.there (.there (.there (.there (.here))))))) | exact .there (.there (.there (.there (.there (.there (.there (.there (.here))))))))) (Asked.at_keys _)) ⟨rfl, rfl⟩)) ?_
                    refine ML.look rfl rfl rfl (fun w hw => (by have hS := hS1.bel hw; exact opW.moveI rfl ⟨rfl, rfl⟩)) ?_
                    refine ML.look rfl rfl rfl (fun w hw => (by have hS := hS1.bel hw; exact opW.idxV rfl ((hkl.bel hS.old)) rfl (by omega) ⟨rfl, rfl⟩)) ?_
                    refine ML.look rfl rfl rfl (fun w hw => (by have hS := hS1.bel hw; exact opW.loadV rfl (((hkl.bel hS.old).isPt hkk).ldA (Enc.size_eq kl[k])) ⟨rfl, rfl⟩)) ?_
                    refine ML.look rfl rfl rfl (fun w hw => (by have hS := hS1.bel hw; exact opW.fieldAddrB rfl ⟨rfl, rfl⟩)) ?_
                    refine ML.look rfl rfl rfl (fun w hw => (by have hS := hS1.bel hw; exact opW.loadV rfl (hS.ld1 (by first | exact .here | exact .there (.here) | exact .there (.there (.here)) | exact .there (.there (.there (.here))) | exact .there (.there (.there (.there (.here)))) | exact .there (.there (.there (.there (.there (.here))))) | exact .there (.there (.there (.there (.there (.there (.here)))))) | exact .there (.there (.there (.there (.there (.there (.there (.here))))))) | exact .there (.there (.there (.there (.there (.there (.there (.there (.here))))))))) (Limits.at_account _)) ⟨rfl, rfl⟩)) ?_
                    refine ML.one rfl rfl rfl (opW.call (ofk_ok _ p d2 kl[k] (hS.trAt (by first | exact .here | exact .there (.here) | exact .there (.there (.here)) | exact .there (.there (.there (.here))) | exact .there (.there (.there (.there (.here)))) | exact .there (.there (.there (.there (.there (.here))))) | exact .there (.there (.there (.there (.there (.there (.here)))))) | exact .there (.there (.there (.there (.there (.there (.there (.here))))))) | exact .there (.there (.there (.there (.there (.there (.there (.there (.here))))))))))) rfl ?_)
                    rintro _ w ⟨rfl, hw⟩; replace hT := hT.bel hw
                    refine ⟨hT.old, ?_⟩
                    have hS := hS1.merge hT
                    try simp only [List.cons_append, List.nil_append] at hS
                    refine ML.look rfl rfl rfl (fun w hw => (by have hS := hS1.bel hw; exact opW.boolF (decide_eq_false (by have := (hI2.2.2.2.2 kl[k]).1; omega)) (opW.gtr rfl rfl ⟨rfl, rfl⟩) ⟨rfl, rfl⟩)) ?_
                    refine ML.look rfl rfl rfl (fun w hw => (by have hS := hS1.bel hw; exact opW.moveB rfl ⟨rfl, rfl⟩)) ?_
                    refine ML.lookT 146 rfl rfl rfl rfl rfl rfl (fun w hw => (by have hS := hS1.bel hw; exact opW.moveI rfl ⟨rfl, rfl⟩)) ?_
                    refine ML.lookT 146 rfl rfl rfl rfl rfl rfl (fun w hw => (by have hS := hS1.bel hw; exact opW.eql rfl rfl ⟨rfl, rfl⟩)) ?_
                    refine ML.lookT 146 rfl rfl rfl rfl rfl rfl (fun w hw => (by have hS := hS1.bel hw; exact opW.moveB rfl ⟨rfl, rfl⟩)) ?_
                    refine ML.lookG  _ 149 rfl rfl rfl rfl rfl rfl (fun hg150 w hw => (by have hS := hS1.bel hw; exact opW.moveV (v := .pointer (some ⟨p, 0, none⟩)) rfl ⟨rfl, rfl⟩)) ?_
                    refine ML.lookG  _ 149 rfl rfl rfl rfl rfl rfl (fun hg151 w hw => (by have hS := hS1.bel hw; exact opW.fieldAddrB rfl ⟨rfl, rfl⟩)) ?_
                    refine ML.lookG  _ 149 rfl rfl rfl rfl rfl rfl (fun hg152 w hw => (by have hS := hS1.bel hw; exact opW.loadV (by first | exact gv_of rfl hg152 | rfl) (hS.ld1 (by first | exact .here | exact .there (.here) | exact .there (.there (.here)) | exact .there (.there (.there (.here))) | exact .there (.there (.there (.there (.here)))) | exact .there (.there (.there (.there (.there (.here))))) | exact .there (.there (.there (.there (.there (.there (.here)))))) | exact .there (.there (.there (.there (.there (.there (.there (.here))))))) | exact .there (.there (.there (.there (.there (.there (.there (.there (.here))))))))) (Asked.at_keys _)) ⟨rfl, rfl⟩)) ?_
                    refine ML.lookG  _ 149 rfl rfl rfl rfl rfl rfl (fun hg153 w hw => (by have hS := hS1.bel hw; exact opW.moveI rfl ⟨rfl, rfl⟩)) ?_
                    refine ML.lookG  _ 149 rfl rfl rfl rfl rfl rfl (fun hg154 w hw => (by have hS := hS1.bel hw; exact opW.idxV (by first | exact gv_of rfl hg154 | rfl) ((hkl.bel hS.old)) (by first | exact gv_of rfl hg154 | rfl) (by omega) ⟨rfl, rfl⟩)) ?_
                    refine ML.lookG  _ 149 rfl rfl rfl rfl rfl rfl (fun hg155 w hw => (by have hS := hS1.bel hw; exact opW.loadV (by first | exact gv_of rfl hg155 | rfl) (((hkl.bel hS.old).isPt hkk).ldA (Enc.size_eq kl[k])) ⟨rfl, rfl⟩)) ?_
                    refine ML.lookG  _ 149 rfl rfl rfl rfl rfl rfl (fun hg157 w hw => (by have hS := hS1.bel hw; exact opW.fieldAddrB rfl ⟨rfl, rfl⟩)) ?_
                    refine ML.lookG  _ 149 rfl rfl rfl rfl rfl rfl (fun hg158 w hw => (by have hS := hS1.bel hw; exact opW.loadV (by first | exact gv_of rfl hg158 | rfl) (hS.ld1 (by first | exact .here | exact .there (.here) | exact .there (.there (.here)) | exact .there (.there (.there (.here))) | exact .there (.there (.there (.there (.here)))) | exact .there (.there (.there (.there (.there (.here))))) | exact .there (.there (.there (.there (.there (.there (.here)))))) | exact .there (.there (.there (.there (.there (.there (.there (.here))))))) | exact .there (.there (.there (.there (.there (.there (.there (.there (.here))))))))) (Asked.at_cost _)) ⟨rfl, rfl⟩)) ?_
                    refine ML.oneG ((.int .u64 (d2.ofK kl[k] : Int))) _ 149 hT.old rfl rfl rfl rfl rfl rfl (fun hg156 => opW.call (ofk_ok _ p d2 kl[k] (hS.trAt (by first | exact .here | exact .there (.here) | exact .there (.there (.here)) | exact .there (.there (.there (.here))) | exact .there (.there (.there (.there (.here)))) | exact .there (.there (.there (.there (.there (.here))))) | exact .there (.there (.there (.there (.there (.there (.here)))))) | exact .there (.there (.there (.there (.there (.there (.there (.here))))))) | exact .there (.there (.there (.there (.there (.there (.there (.there (.here))))))))))) (args2 (by first | exact gv_of rfl hg156 | rfl) (by first | exact gv_of rfl hg156 | rfl)) (fun _ _ h => h)) (fun w hw => ?_)
                    replace hT := hT.bel hw
                    have hS := hS1.merge hT
                    try simp only [List.cons_append, List.nil_append] at hS
                    refine ML.lookG  _ 149 rfl rfl rfl rfl rfl rfl (fun hg159 w hw => (by have hS := hS1.bel hw; exact opW.lss (by first | exact gv_of rfl hg159 | rfl) (by first | exact gv_of rfl hg159 | rfl) ⟨rfl, rfl⟩)) ?_
                    refine ML.lookT 146 rfl rfl rfl rfl rfl rfl (fun w hw => (by have hS := hS1.bel hw; exact opW.pickAndK false rfl rfl rfl (Bool.and_eq_false_iff.2 (if h : (wouldC d xs[i].cost kl xs[i].space) = 0 then .inr (decide_eq_false (by have := (hge h).2.2.2 kl[k] (List.getElem_mem hkk); omega)) else .inl (decide_eq_false h))) ⟨rfl, rfl⟩)) ?_
                    refine ML.look rfl rfl rfl (fun w hw => (by have hS := hS1.bel hw; exact opW.pickT rfl rfl ⟨rfl, rfl⟩)) ?_
                    refine ML.look rfl rfl rfl (fun w hw => (by have hS := hS1.bel hw; exact opW.moveB rfl ⟨rfl, rfl⟩)) ?_
                    refine ML.lookT 162 rfl rfl rfl rfl rfl rfl (fun w hw => (by have hS := hS1.bel hw; exact opW.moveV (v := .pointer (some ⟨p, 0, none⟩)) rfl ⟨rfl, rfl⟩)) ?_
                    refine ML.lookT 162 rfl rfl rfl rfl rfl rfl (fun w hw => (by have hS := hS1.bel hw; exact opW.fieldAddrB rfl ⟨rfl, rfl⟩)) ?_
                    refine ML.lookT 162 rfl rfl rfl rfl rfl rfl (fun w hw => (by have hS := hS1.bel hw; exact opW.loadV rfl (hS.ld1 (by first | exact .here | exact .there (.here) | exact .there (.there (.here)) | exact .there (.there (.there (.here))) | exact .there (.there (.there (.there (.here)))) | exact .there (.there (.there (.there (.there (.here))))) | exact .there (.there (.there (.there (.there (.there (.here)))))) | exact .there (.there (.there (.there (.there (.there (.there (.here))))))) | exact .there (.there (.there (.there (.there (.there (.there (.there (.here))))))))) (Asked.at_keys _)) ⟨rfl, rfl⟩)) ?_
                    refine ML.lookT 162 rfl rfl rfl rfl rfl rfl (fun w hw => (by have hS := hS1.bel hw; exact opW.moveI rfl ⟨rfl, rfl⟩)) ?_
                    refine ML.lookT 162 rfl rfl rfl rfl rfl rfl (fun w hw => (by have hS := hS1.bel hw; exact opW.idxV rfl ((hkl.bel hS.old)) rfl (by omega) ⟨rfl, rfl⟩)) ?_
                    refine ML.lookT 162 rfl rfl rfl rfl rfl rfl (fun w hw => (by have hS := hS1.bel hw; exact opW.loadV rfl (((hkl.bel hS.old).isPt hkk).ldA (Enc.size_eq kl[k])) ⟨rfl, rfl⟩)) ?_
                    refine ML.lookT 162 rfl rfl rfl rfl rfl rfl (fun w hw => (by have hS := hS1.bel hw; exact opW.moveV (v := .pointer (some ⟨p, 0, none⟩)) rfl ⟨rfl, rfl⟩)) ?_
                    refine ML.oneT 162 rfl rfl rfl rfl rfl rfl (opW.call (ofk_ok _ p d2 kl[k] (hS.trAt (by first | exact .here | exact .there (.here) | exact .there (.there (.here)) | exact .there (.there (.there (.here))) | exact .there (.there (.there (.there (.here)))) | exact .there (.there (.there (.there (.there (.here))))) | exact .there (.there (.there (.there (.there (.there (.here)))))) | exact .there (.there (.there (.there (.there (.there (.there (.here))))))) | exact .there (.there (.there (.there (.there (.there (.there (.there (.here))))))))))) rfl ?_)
                    rintro _ w ⟨rfl, hw⟩; replace hT := hT.bel hw
                    refine ⟨hT.old, ?_⟩
                    have hS := hS1.merge hT
                    try simp only [List.cons_append, List.nil_append] at hS
                    refine ML.oneT 162 rfl rfl rfl rfl rfl rfl (opW.call (block_ok _ p d2 (hS.trAt (by first | exact .here | exact .there (.here) | exact .there (.there (.here)) | exact .there (.there (.there (.here))) | exact .there (.there (.there (.there (.here)))) | exact .there (.there (.there (.there (.there (.here))))) | exact .there (.there (.there (.there (.there (.there (.here)))))) | exact .there (.there (.there (.there (.there (.there (.there (.here))))))) | exact .there (.there (.there (.there (.there (.there (.there (.there (.here))))))))))) rfl ?_)
                    rintro _ w ⟨rfl, hw⟩; replace hT := hT.bel hw
                    refine ⟨hT.old, ?_⟩
                    have hS := hS1.merge hT
                    try simp only [List.cons_append, List.nil_append] at hS
                    refine ML.lookT 162 rfl rfl rfl rfl rfl rfl (fun w hw => (by have hS := hS1.bel hw; exact opW.boolF (decide_eq_false (by have := (hI2.2.2.2.2 kl[k]).2; omega)) (opW.gtr rfl rfl ⟨rfl, rfl⟩) ⟨rfl, rfl⟩)) ?_
                    refine ML.look rfl rfl rfl (fun w hw => (by have hS := hS1.bel hw; exact opW.pickT rfl rfl ⟨rfl, rfl⟩)) ?_
                    refine ML.nil ?_
                    refine thenQ_n (hK27 _ _ ?_)
                    refine WC.cond _ rfl (fun hc7 => ?_) (fun hc7 => ?_)
                    ·
                      have hr7 := hc7
                      try simp only [decide_eq_true_eq, decide_eq_false_iff_not, Bool.and_eq_true, Bool.or_eq_true, Bool.and_eq_false_iff, Bool.or_eq_false_iff, Bool.not_eq_true', Bool.not_eq_false', Int.not_lt, Int.not_le] at hc7
                      exact absurd hr7 (by decide)
                    ·
                      have hr7 := hc7
                      try simp only [decide_eq_true_eq, decide_eq_false_iff_not, Bool.and_eq_true, Bool.or_eq_true, Bool.and_eq_false_iff, Bool.or_eq_false_iff, Bool.not_eq_true', Bool.not_eq_false', Int.not_lt, Int.not_le] at hc7
                      refine WC.skip ?_
                      refine blockQ_n ?_
                      refine thenQ_n (hK26 _ _ ?_)
                      refine WC.region ?_
                      refine WL.op rfl (opW.moveI rfl ?_)
                      refine WL.op rfl (opW.add rfl rfl (wrap_i64 (by omega)) ?_)
                      refine WL.op rfl (opW.assignI rfl ?_)
                      refine WL.nil ?_
                      refine thenQ_n ?_
                      exact ⟨kl.length - (k + 1), by omega, k + 1, ⟨rfl, rfl, rfl, rfl, rfl, rfl, congrArg (Value.int .i64) (by omega), trivial⟩, hS, by omega, rfl⟩
                  ·
                    have hr6 := hc6
                    try simp only [decide_eq_true_eq, decide_eq_false_iff_not, Bool.and_eq_true, Bool.or_eq_true, Bool.and_eq_false_iff, Bool.or_eq_false_iff, Bool.not_eq_true', Bool.not_eq_false', Int.not_lt, Int.not_le] at hc6
                    refine WC.exit ?_
                    refine thenQ_e ?_
                    refine thenQ_e ?_
                    refine blockQ_hit ?_
                    refine blockQ_n ?_
                    refine thenQ_n (hK10 _ _ ?_)
                    refine WC.region ?_
                    refine WL.op rfl (opW.moveI rfl ?_)
                    refine WL.op rfl (opW.add rfl rfl (wrap_i64 (by omega)) ?_)
                    refine WL.op rfl (opW.assignI rfl ?_)
                    refine WL.nil ?_
                    refine thenQ_n ?_
                    exact ⟨xs.length - (i + 1), by omega, i + 1, d2, ⟨rfl, rfl, rfl, congrArg (Value.int .i64) (by omega), trivial⟩, hS.sub (by repeat (first | with_reducible exact List.nil_sublist _ | with_reducible exact List.Sublist.refl _ | with_reducible refine List.Sublist.cons₂ _ ?_ | with_reducible refine List.Sublist.cons _ ?_)), hI2, by omega, rfl⟩
      ·
        have hr1 := hc1
        try simp only [decide_eq_true_eq, decide_eq_false_iff_not, Bool.and_eq_true, Bool.or_eq_true, Bool.and_eq_false_iff, Bool.or_eq_false_iff, Bool.not_eq_true', Bool.not_eq_false', Int.not_lt, Int.not_le] at hc1
        refine WC.exit ?_
        refine thenQ_e ?_
        refine thenQ_e ?_
        refine blockQ_hit ?_
        refine thenQ_n (hK6 _ _ ?_)
        refine WC.seq (fun K28 hK28 => ?_)
        refine WC.region ?_
        refine WL.op rfl (opW.call (lives20 _) rfl ?_)
        rintro _ w ⟨rfl, hw⟩; replace hS := hS.bel hw
        refine WL.op rfl (opW.assignB rfl ?_)
        refine WL.nil ?_
        refine thenQ_n (hK28 _ _ ?_)
        refine WC.ret ?_
        refine bodyQ_ret (.tmpB rfl .nil) ?_
        exact ⟨rfl, hS.old⟩

end Go.Fer
