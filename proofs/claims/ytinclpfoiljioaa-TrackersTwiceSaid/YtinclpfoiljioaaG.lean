/- TrackersTwice -/
import Derived.Test.YtinclpfoiljioaaF
set_option linter.all false
namespace Go.Fer
open Go Go.Proofs Go.RowKit

theorem rep_mem {k a : Key} {n : Nat} : k ∈ List.replicate (n + 1) a ↔ k = a := by simp [List.mem_replicate]
theorem would_all {d : TrD} (hl : d.lim = ⟨18446744073709551615, 18446744073709551615, 18446744073709551615⟩) (cost : Nat) (keys : List Key) (space : Nat) : wouldC d cost keys space = 0 := by
  have hk : keys.any (fun k => decide (d.lim.account < sumH (d.ofK k) cost)) = false := by
    rw [List.any_eq_false]
    intro k _
    rw [hl]
    have := sumH_lt (d.ofK k) cost
    simp only [decide_eq_true_eq]; omega
  unfold wouldC
  rw [hl] at hk ⊢
  have h1 := sumH_lt d.block cost
  have h2 := sumH_lt d.space space
  simp only at hk ⊢
  rw [if_neg (by omega), hk, if_neg (by decide), if_neg (by omega)]
theorem sumH_zero {c : Nat} (hc : c ≤ 18446744073709551615) : sumH 0 c = c := by unfold sumH; split <;> omega

theorem twice_law (w0 : World) (cost : Nat) (hc : cost ≤ 18446744073709551615) (ks : P2 Key) (n : Nat) (hn : n ≤ 255) : Ret Try.prog 7 #[.int .u64 (cost : Int), .agg (Enc.enc ks), .int .u8 (n : Int)] w0 (fun r w' => r = .bool true ∧ Bel w0 w') := by
  refine Ret.enter (args := [.int .u64 (cost : Int), .agg (Enc.enc ks), .int .u8 (n : Int)]) Try.func7 rfl Try.ntmps7 Try.results7 rfl ?_
  have hS := St.start w0
  refine WC.seq (fun K1 hK1 => ?_)
  refine WC.region ?_
  refine WL.op rfl (opW.boxA hS rfl ?_)
  intro b4 w _ hS
  refine WL.op rfl (opW.assignB rfl ?_)
  refine WL.nil ?_
  refine thenQ_n (hK1 _ _ ?_)
  refine WC.seq (fun K2 hK2 => ?_)
  refine WC.region ?_
  refine WL.op rfl (opW.idxArr rfl rfl (by omega) ?_)
  refine WL.op rfl (opW.loadV rfl (hS.ldF (cs := Enc.enc ks) (o := 0) (by first | exact .here | exact .there (.here) | exact .there (.there (.here)) | exact .there (.there (.there (.here))) | exact .there (.there (.there (.there (.here)))) | exact .there (.there (.there (.there (.there (.here))))) | exact .there (.there (.there (.there (.there (.there (.here)))))) | exact .there (.there (.there (.there (.there (.there (.there (.here))))))) | exact .there (.there (.there (.there (.there (.there (.there (.there (.here))))))))) (P2.ex_a ks) (by rw [Enc.size_eq]; decide)) ?_)
  refine WL.op rfl (opW.allocA hS ?_)
  intro b7 w _ hS
  refine WL.op0 (opW.storeE hS rfl rfl (by first | exact .here | exact .there (.here) | exact .there (.there (.here)) | exact .there (.there (.there (.here))) | exact .there (.there (.there (.there (.here)))) | exact .there (.there (.there (.there (.there (.here))))) | exact .there (.there (.there (.there (.there (.there (.here)))))) | exact .there (.there (.there (.there (.there (.there (.there (.here))))))) | exact .there (.there (.there (.there (.there (.there (.there (.there (.here))))))))) (by first | rfl | exact Enc.size_eq _) ?_)
  intro w hS; replace hS := hS _ (by first | exact .here | exact .there (.here) | exact .there (.there (.here)) | exact .there (.there (.there (.here))) | exact .there (.there (.there (.there (.here)))) | exact .there (.there (.there (.there (.there (.here))))) | exact .there (.there (.there (.there (.there (.there (.here)))))) | exact .there (.there (.there (.there (.there (.there (.there (.here))))))) | exact .there (.there (.there (.there (.there (.there (.there (.there (.here)))))))))
  refine WL.nil ?_
  refine thenQ_n (hK2 _ _ ?_)
  refine WC.seq (fun K3 hK3 => ?_)
  refine WC.region ?_
  refine WL.op rfl (opW.idxArr rfl rfl (by omega) ?_)
  refine WL.op rfl (opW.loadV rfl (hS.ldF (cs := Enc.enc ks) (o := 32) (by first | exact .here | exact .there (.here) | exact .there (.there (.here)) | exact .there (.there (.there (.here))) | exact .there (.there (.there (.there (.here)))) | exact .there (.there (.there (.there (.there (.here))))) | exact .there (.there (.there (.there (.there (.there (.here)))))) | exact .there (.there (.there (.there (.there (.there (.there (.here))))))) | exact .there (.there (.there (.there (.there (.there (.there (.there (.here))))))))) (P2.ex_b ks) (by rw [Enc.size_eq]; decide)) ?_)
  refine WL.op rfl (opW.allocA hS ?_)
  intro b8 w _ hS
  refine WL.op0 (opW.storeE hS rfl rfl (by first | exact .here | exact .there (.here) | exact .there (.there (.here)) | exact .there (.there (.there (.here))) | exact .there (.there (.there (.there (.here)))) | exact .there (.there (.there (.there (.there (.here))))) | exact .there (.there (.there (.there (.there (.there (.here)))))) | exact .there (.there (.there (.there (.there (.there (.there (.here))))))) | exact .there (.there (.there (.there (.there (.there (.there (.there (.here))))))))) (by first | rfl | exact Enc.size_eq _) ?_)
  intro w hS; replace hS := hS _ (by first | exact .here | exact .there (.here) | exact .there (.there (.here)) | exact .there (.there (.there (.here))) | exact .there (.there (.there (.there (.here)))) | exact .there (.there (.there (.there (.there (.here))))) | exact .there (.there (.there (.there (.there (.there (.here)))))) | exact .there (.there (.there (.there (.there (.there (.there (.here))))))) | exact .there (.there (.there (.there (.there (.there (.there (.there (.here)))))))))
  refine WL.nil ?_
  refine thenQ_n (hK3 _ _ ?_)
  refine WC.seq (fun K4 hK4 => ?_)
  refine WC.region ?_
  refine WL.op rfl (opW.assignI rfl ?_)
  refine WL.nil ?_
  refine thenQ_n (hK4 _ _ ?_)
  refine WC.seq (fun K5 hK5 => ?_)
  refine WC.region ?_
  refine WL.op rfl (opW.moveI rfl ?_)
  refine WL.op rfl (opW.moveI rfl ?_)
  refine WL.op rfl (opW.moveI rfl ?_)
  refine WL.op rfl (opW.buildE (r := (⟨18446744073709551615, 18446744073709551615, 18446744073709551615⟩ : Limits)) (ps := Limits.parts (⟨18446744073709551615, 18446744073709551615, 18446744073709551615⟩ : Limits)) (Limits.enc_eq _) (by first | rfl | (simp only [kK, enc_vset, enc_vz, Limits.enc_eq, Limits.parts, Asked.enc_eq, Asked.parts, TrS.enc_eq, TrS.parts]; rfl)) (by (repeat' (first | exact trivial | refine And.intro ?_ ?_)) <;> first | rfl | exact Enc.size_eq _ | (simp; done)) ?_)
  refine WL.op rfl (opW.call (new_ok _ ⟨18446744073709551615, 18446744073709551615, 18446744073709551615⟩) rfl ?_)
  rintro _ w ⟨p, d0, rfl, hl0, hb0, hs0, ho0, hn0, hw⟩
  replace hS := hS.newE hw hn0
  refine WL.op rfl (opW.assignV (v := .pointer (some ⟨p, 0, none⟩)) rfl ?_)
  refine WL.nil ?_
  refine thenQ_n (hK5 _ _ ?_)
  refine WC.seq (fun K6 hK6 => ?_)
  refine WC.region ?_
  refine WL.op rfl (opW.assignV (v := .slice none 0 0) rfl ?_)
  refine WL.nil ?_
  refine thenQ_n (hK6 _ _ ?_)
  refine WC.seq (fun K7 hK7 => ?_)
  refine WC.seq (fun K8 hK8 => ?_)
  refine WC.region ?_
  refine WL.op rfl (opW.assignI rfl ?_)
  refine WL.nil ?_
  refine thenQ_n (hK8 _ _ ?_)
  refine WC.block ?_
  refine WC.loop (fun q f w => ∃ (i : Nat) (vl : Value), Fits [(0, .int .u64 (cost : Int)), (2, .int .u8 (n : Int)), (7, .pointer (some ⟨b7, 0, none⟩)), (8, .pointer (some ⟨b8, 0, none⟩)), (10, .pointer (some ⟨p, 0, none⟩)), (11, vl), (12, .int .i64 (i : Int))] f ∧ St w0 [ownE vl 27 (List.replicate i ks.a), trE p d0, blkE b8 (Enc.enc ks.b) 27, blkE b7 (Enc.enc ks.a) 27] w ∧ i ≤ n % 9 + 1 ∧ q = n % 9 + 1 - i) (n % 9 + 1) ?_ ?_
  ·
    exact ⟨0, .slice none 0 0, ⟨rfl, rfl, rfl, rfl, rfl, rfl, rfl, trivial⟩, (hS.sub (by repeat (first | with_reducible exact List.nil_sublist _ | with_reducible exact List.Sublist.refl _ | with_reducible refine List.Sublist.cons₂ _ ?_ | with_reducible refine List.Sublist.cons _ ?_)) : St w0 [trE p d0, blkE b8 (Enc.enc ks.b) 27, blkE b7 (Enc.enc ks.a) 27] _).nilOwn _, Nat.zero_le _, rfl⟩
  ·
    rintro q f w ⟨i, vl, hfit, hS, hi0, hm⟩
    refine WC.fits _ hfit (fun g => ?_)
    clear hfit
    refine WC.seq (fun K9 hK9 => ?_)
    refine WC.seq (fun K10 hK10 => ?_)
    refine WC.region ?_
    refine WL.op rfl (opW.moveI rfl ?_)
    refine WL.op rfl (opW.moveI rfl ?_)
    refine WL.op rfl (opW.conv rfl (wrap_i64 (by omega)) ?_)
    refine WL.op rfl (opW.rem rfl rfl (by omega) (tmod_nat n 9) ?_)
    refine WL.op rfl (opW.add rfl rfl (wrap_i64 (by omega)) ?_)
    refine WL.op rfl (opW.lss rfl rfl ?_)
    refine WL.nil ?_
    refine thenQ_n (hK10 _ _ ?_)
    refine WC.cond _ rfl (fun hc0 => ?_) (fun hc0 => ?_)
    ·
      have hr0 := hc0
      try simp only [decide_eq_true_eq, decide_eq_false_iff_not, Bool.and_eq_true, Bool.or_eq_true, Bool.and_eq_false_iff, Bool.or_eq_false_iff, Bool.not_eq_true', Bool.not_eq_false', Int.not_lt, Int.not_le] at hc0
      refine WC.skip ?_
      refine thenQ_n (hK9 _ _ ?_)
      refine WC.seq (fun K11 hK11 => ?_)
      refine WC.block ?_
      refine WC.region ?_
      refine WL.op rfl (opW.moveV (v := vl) rfl ?_)
      refine WL.op rfl (opW.loadV rfl (hS.ldA (cs := Enc.enc ks.a) (by first | exact .here | exact .there (.here) | exact .there (.there (.here)) | exact .there (.there (.there (.here))) | exact .there (.there (.there (.there (.here)))) | exact .there (.there (.there (.there (.there (.here))))) | exact .there (.there (.there (.there (.there (.there (.here)))))) | exact .there (.there (.there (.there (.there (.there (.there (.here))))))) | exact .there (.there (.there (.there (.there (.there (.there (.there (.here))))))))) (Enc.size_eq _)) ?_)
      refine WL.op rfl (opW.buildSl hS (([ks.a] : List Key)) [.agg (Enc.enc ks.a)] rfl rfl rfl rfl (by decide) ?_)
      intro b32 w hw hS
      refine WL.op rfl (opW.appendOwn (α := Vector UInt8 32) rfl hS rfl (by first | exact .here | exact .there (.here) | exact .there (.there (.here)) | exact .there (.there (.there (.here))) | exact .there (.there (.there (.there (.here)))) | exact .there (.there (.there (.there (.there (.here))))) | exact .there (.there (.there (.there (.there (.there (.here)))))) | exact .there (.there (.there (.there (.there (.there (.there (.here))))))) | exact .there (.there (.there (.there (.there (.there (.there (.there (.here))))))))) (hS.sl (xs := ([ks.a] : List Key)) (by first | exact .here | exact .there (.here) | exact .there (.there (.here)) | exact .there (.there (.there (.here))) | exact .there (.there (.there (.there (.here)))) | exact .there (.there (.there (.there (.there (.here))))) | exact .there (.there (.there (.there (.there (.there (.here)))))) | exact .there (.there (.there (.there (.there (.there (.there (.here))))))) | exact .there (.there (.there (.there (.there (.there (.there (.there (.here)))))))))) (by simp only [List.length_replicate, List.length_cons, List.length_nil]; omega) (by simp only [maxLen]; simp only [List.length_replicate, List.length_cons, List.length_nil]; omega) ?_)
      intro v33 w hS; replace hS := hS _ (by first | exact .here | exact .there (.here) | exact .there (.there (.here)) | exact .there (.there (.there (.here))) | exact .there (.there (.there (.there (.here)))) | exact .there (.there (.there (.there (.there (.here))))) | exact .there (.there (.there (.there (.there (.there (.here)))))) | exact .there (.there (.there (.there (.there (.there (.there (.here))))))) | exact .there (.there (.there (.there (.there (.there (.there (.there (.here)))))))))
      refine WL.op rfl (opW.assignV (v := v33) rfl ?_)
      refine WL.nil ?_
      refine blockQ_n ?_
      refine thenQ_n (hK11 _ _ ?_)
      refine WC.region ?_
      refine WL.op rfl (opW.moveI rfl ?_)
      refine WL.op rfl (opW.add rfl rfl (wrap_i64 (by omega)) ?_)
      refine WL.op rfl (opW.assignI rfl ?_)
      refine WL.nil ?_
      refine thenQ_n ?_
      rw [← List.replicate_succ'] at hS
      exact ⟨n % 9 + 1 - (i + 1), by omega, i + 1, v33, ⟨rfl, rfl, rfl, rfl, rfl, rfl, congrArg (Value.int .i64) (by omega), trivial⟩, hS.sub (by repeat (first | with_reducible exact List.nil_sublist _ | with_reducible exact List.Sublist.refl _ | with_reducible refine List.Sublist.cons₂ _ ?_ | with_reducible refine List.Sublist.cons _ ?_)), by omega, rfl⟩
    ·
      have hr0 := hc0
      try simp only [decide_eq_true_eq, decide_eq_false_iff_not, Bool.and_eq_true, Bool.or_eq_true, Bool.and_eq_false_iff, Bool.or_eq_false_iff, Bool.not_eq_true', Bool.not_eq_false', Int.not_lt, Int.not_le] at hc0
      have hii : i = n % 9 + 1 := by omega
      subst hii
      have hcl : cost ≤ 18446744073709551615 := hc
      refine WC.exit ?_
      refine thenQ_e ?_
      refine thenQ_e ?_
      refine blockQ_hit ?_
      refine thenQ_n (hK7 _ _ ?_)
      refine WC.seq (fun K12 hK12 => ?_)
      refine WC.seq (fun K13 hK13 => ?_)
      refine WC.region ?_
      refine WL.op rfl (opW.moveV (v := .pointer (some ⟨p, 0, none⟩)) rfl ?_)
      refine WL.op rfl (opW.moveI rfl ?_)
      refine WL.op rfl (opW.moveV (v := vl) rfl ?_)
      refine WL.op rfl (opW.call (add_ok _ _ [ownE vl 27 (List.replicate (n % 9 + 1) ks.a), blkE b8 (Enc.enc ks.b) 27, blkE b7 (Enc.enc ks.a) 27] p d0 cost (List.replicate (n % 9 + 1) ks.a) 1 vl (hS.pick (by first | exact .here | exact .there (.here) | exact .there (.there (.here)) | exact .there (.there (.there (.here))) | exact .there (.there (.there (.there (.here)))) | exact .there (.there (.there (.there (.there (.here))))) | exact .there (.there (.there (.there (.there (.there (.here)))))) | exact .there (.there (.there (.there (.there (.there (.there (.here))))))) | exact .there (.there (.there (.there (.there (.there (.there (.there (.here)))))))))) ⟨by rw [hb0]; decide, by rw [hs0]; decide, fun k => by rw [ho0]; decide⟩ (fun w h => h.sl (by first | exact .here | exact .there (.here) | exact .there (.there (.here)) | exact .there (.there (.there (.here))) | exact .there (.there (.there (.there (.here)))) | exact .there (.there (.there (.there (.there (.here))))) | exact .there (.there (.there (.there (.there (.there (.here)))))) | exact .there (.there (.there (.there (.there (.there (.there (.here))))))) | exact .there (.there (.there (.there (.there (.there (.there (.there (.here))))))))))) rfl ?_)
      rintro _ w ⟨d1, rfl, ha1, _, _, hS⟩
      obtain ⟨_, hB, hP, hK⟩ := ha1 (would_all hl0 _ _ _)
      rw [would_all hl0]
      refine WL.op rfl (opW.boolF (by decide) (opW.neq rfl rfl ⟨rfl, rfl⟩) ?_)
      refine WL.op rfl (opW.moveB rfl ?_)
      refine WL.gT 39 rfl rfl rfl (WL.op rfl (opW.moveV (v := .pointer (some ⟨p, 0, none⟩)) rfl ?_))
      refine WL.gT 39 rfl rfl rfl (WL.op rfl (opW.loadV rfl (hS.ldA (cs := Enc.enc ks.a) (by first | exact .here | exact .there (.here) | exact .there (.there (.here)) | exact .there (.there (.there (.here))) | exact .there (.there (.there (.there (.here)))) | exact .there (.there (.there (.there (.there (.here))))) | exact .there (.there (.there (.there (.there (.there (.here)))))) | exact .there (.there (.there (.there (.there (.there (.there (.here))))))) | exact .there (.there (.there (.there (.there (.there (.there (.there (.here))))))))) (Enc.size_eq _)) ?_))
      refine WL.gT 39 rfl rfl rfl (WL.op rfl (opW.call (ofk_ok _ p d1 ks.a (hS.trAt (by first | exact .here | exact .there (.here) | exact .there (.there (.here)) | exact .there (.there (.there (.here))) | exact .there (.there (.there (.there (.here)))) | exact .there (.there (.there (.there (.there (.here))))) | exact .there (.there (.there (.there (.there (.there (.here)))))) | exact .there (.there (.there (.there (.there (.there (.there (.here))))))) | exact .there (.there (.there (.there (.there (.there (.there (.there (.here))))))))))) rfl ?_))
      rintro _ w ⟨rfl, hw⟩; replace hS := hS.bel hw
      refine WL.gT 39 rfl rfl rfl (WL.op rfl (opW.moveI rfl ?_))
      refine WL.gT 39 rfl rfl rfl (WL.op rfl (opW.boolF (by rw [hK, if_pos (rep_mem.2 rfl), ho0, sumH_zero hcl]; simp) (opW.neq rfl rfl ⟨rfl, rfl⟩) ?_))
      refine WL.op rfl (opW.pickT rfl rfl ?_)
      refine WL.op rfl (opW.moveB rfl ?_)
      refine WL.gT 46 rfl rfl rfl (WL.op rfl (opW.moveV (v := .pointer (some ⟨p, 0, none⟩)) rfl ?_))
      refine WL.gT 46 rfl rfl rfl (WL.op rfl (opW.call (block_ok _ p d1 (hS.trAt (by first | exact .here | exact .there (.here) | exact .there (.there (.here)) | exact .there (.there (.there (.here))) | exact .there (.there (.there (.there (.here)))) | exact .there (.there (.there (.there (.there (.here))))) | exact .there (.there (.there (.there (.there (.there (.here)))))) | exact .there (.there (.there (.there (.there (.there (.there (.here))))))) | exact .there (.there (.there (.there (.there (.there (.there (.there (.here))))))))))) rfl ?_))
      rintro _ w ⟨rfl, hw⟩; replace hS := hS.bel hw
      refine WL.gT 46 rfl rfl rfl (WL.op rfl (opW.moveI rfl ?_))
      refine WL.gT 46 rfl rfl rfl (WL.op rfl (opW.boolF (by rw [hB, hb0, sumH_zero hcl]; simp) (opW.neq rfl rfl ⟨rfl, rfl⟩) ?_))
      refine WL.op rfl (opW.pickT rfl rfl ?_)
      refine WL.op rfl (opW.moveB rfl ?_)
      refine WL.gT 52 rfl rfl rfl (WL.op rfl (opW.moveV (v := .pointer (some ⟨p, 0, none⟩)) rfl ?_))
      refine WL.gT 52 rfl rfl rfl (WL.op rfl (opW.call (space_ok _ p d1 (hS.trAt (by first | exact .here | exact .there (.here) | exact .there (.there (.here)) | exact .there (.there (.there (.here))) | exact .there (.there (.there (.there (.here)))) | exact .there (.there (.there (.there (.there (.here))))) | exact .there (.there (.there (.there (.there (.there (.here)))))) | exact .there (.there (.there (.there (.there (.there (.there (.here))))))) | exact .there (.there (.there (.there (.there (.there (.there (.there (.here))))))))))) rfl ?_))
      rintro _ w ⟨rfl, hw⟩; replace hS := hS.bel hw
      refine WL.gT 52 rfl rfl rfl (WL.op rfl (opW.boolF (by rw [hP, hs0, sumH_zero (by decide)]; decide) (opW.neq rfl rfl ⟨rfl, rfl⟩) ?_))
      refine WL.op rfl (opW.pickT rfl rfl ?_)
      refine WL.nil ?_
      refine thenQ_n (hK13 _ _ ?_)
      refine WC.cond _ rfl (fun hc1 => ?_) (fun hc1 => ?_)
      ·
        have hr1 := hc1
        try simp only [decide_eq_true_eq, decide_eq_false_iff_not, Bool.and_eq_true, Bool.or_eq_true, Bool.and_eq_false_iff, Bool.or_eq_false_iff, Bool.not_eq_true', Bool.not_eq_false', Int.not_lt, Int.not_le] at hc1
        exact absurd hr1 (by decide)
      ·
        have hr1 := hc1
        try simp only [decide_eq_true_eq, decide_eq_false_iff_not, Bool.and_eq_true, Bool.or_eq_true, Bool.and_eq_false_iff, Bool.or_eq_false_iff, Bool.not_eq_true', Bool.not_eq_false', Int.not_lt, Int.not_le] at hc1
        refine WC.skip ?_
        refine thenQ_n (hK12 _ _ ?_)
        refine WC.seq (fun K14 hK14 => ?_)
        refine WC.region ?_
        refine WL.op rfl (opW.loadV rfl (hS.ldA (cs := Enc.enc ks.a) (by first | exact .here | exact .there (.here) | exact .there (.there (.here)) | exact .there (.there (.there (.here))) | exact .there (.there (.there (.there (.here)))) | exact .there (.there (.there (.there (.there (.here))))) | exact .there (.there (.there (.there (.there (.there (.here)))))) | exact .there (.there (.there (.there (.there (.there (.there (.here))))))) | exact .there (.there (.there (.there (.there (.there (.there (.there (.here))))))))) (Enc.size_eq _)) ?_)
        refine WL.op rfl (opW.loadV rfl (hS.ldA (cs := Enc.enc ks.b) (by first | exact .here | exact .there (.here) | exact .there (.there (.here)) | exact .there (.there (.there (.here))) | exact .there (.there (.there (.there (.here)))) | exact .there (.there (.there (.there (.there (.here))))) | exact .there (.there (.there (.there (.there (.there (.here)))))) | exact .there (.there (.there (.there (.there (.there (.there (.here))))))) | exact .there (.there (.there (.there (.there (.there (.there (.there (.here))))))))) (Enc.size_eq _)) ?_)
        refine WL.op rfl (opW.eqlE (a := ks.a) (b := ks.b) rfl rfl ?_)
        refine WL.op rfl (opW.moveB rfl ?_)
        refine WL.gd _ 60 _ rfl rfl rfl rfl (fun hg61 => opW.moveV (v := .pointer (some ⟨p, 0, none⟩)) rfl ⟨rfl, Bel.refl _⟩) (fun w hw => ?_)
        replace hS := hS.bel hw
        refine WL.gd _ 60 _ rfl rfl rfl rfl (fun hg62 => opW.loadV rfl (hS.ldA (cs := Enc.enc ks.b) (by first | exact .here | exact .there (.here) | exact .there (.there (.here)) | exact .there (.there (.there (.here))) | exact .there (.there (.there (.there (.here)))) | exact .there (.there (.there (.there (.there (.here))))) | exact .there (.there (.there (.there (.there (.there (.here)))))) | exact .there (.there (.there (.there (.there (.there (.there (.here))))))) | exact .there (.there (.there (.there (.there (.there (.there (.there (.here))))))))) (Enc.size_eq _)) ⟨rfl, Bel.refl _⟩) (fun w hw => ?_)
        replace hS := hS.bel hw
        refine WL.gd _ 60 (.int .u64 (d1.ofK ks.b : Int)) rfl rfl rfl rfl (fun hg63 => ?_) (fun w hw => ?_)
        · refine opW.call (ofk_ok _ p d1 ks.b (hS.trAt (by first | exact .here | exact .there (.here) | exact .there (.there (.here)) | exact .there (.there (.there (.here))) | exact .there (.there (.there (.there (.here)))) | exact .there (.there (.there (.there (.there (.here))))) | exact .there (.there (.there (.there (.there (.there (.here)))))) | exact .there (.there (.there (.there (.there (.there (.there (.here))))))) | exact .there (.there (.there (.there (.there (.there (.there (.there (.here))))))))))) (args2 (by first | exact gv_of rfl hg63 | rfl) (by first | exact gv_of rfl hg63 | rfl)) ?_
          rintro _ w ⟨rfl, hw⟩; replace hS := hS.bel hw
          exact ⟨rfl, ‹_›⟩
        replace hS := hS.bel hw
        refine WL.gd _ 60 _ rfl rfl rfl rfl (fun hg64 => opW.eql (by first | exact gv_of rfl hg64 | rfl) rfl ⟨rfl, Bel.refl _⟩) (fun w hw => ?_)
        replace hS := hS.bel hw
        refine WL.op rfl (opW.pickOr rfl rfl rfl ?_)
        have hor : (decide (ks.a = ks.b) || decide ((d1.ofK ks.b : Int) = 0)) = true := by
          by_cases e : ks.a = ks.b
          · simp [e]
          · rw [hK, if_neg (fun h => e (rep_mem.1 h).symm), ho0]; simp
        rw [hor]
        refine WL.op rfl (opW.moveB rfl ?_)
        refine WL.gT 66 rfl rfl rfl (WL.op rfl (opW.call (lives20 _) rfl ?_))
        rintro _ w ⟨rfl, hw⟩; replace hS := hS.bel hw
        refine WL.op rfl (opW.pickT rfl rfl ?_)
        refine WL.op rfl (opW.assignB rfl ?_)
        refine WL.nil ?_
        refine thenQ_n (hK14 _ _ ?_)
        refine WC.ret ?_
        refine bodyQ_ret (.tmpB rfl .nil) ?_
        exact ⟨rfl, hS.old⟩

end Go.Fer
