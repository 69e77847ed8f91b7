/- Conflict -/
import Derived.Test.YtnkonnoofnhbcaaI
set_option linter.all false
namespace Go.Fer
open Go Go.Proofs Go.RowKit

theorem UseIs.at {kvs : List (Key × Int)} {l : List Role} (h : UseIs kvs l) (hn : (kvs.map Prod.fst).Nodup) {i : Nat} (hi : i < kvs.length) : (kvs[i]'hi).2 = useV l (kvs[i]'hi).1 ∧ useV l (kvs[i]'hi).1 ≠ 0 := by
  have h1 := h (kvs[i]'hi).1
  rw [aget_at hi hn] at h1
  split at h1
  · cases h1
  · rename_i h2; exact ⟨Option.some.inj h1, h2⟩
theorem UseIs.ex {kvs : List (Key × Int)} {l : List Role} (h : UseIs kvs l) {x : Key} (hx : useV l x ≠ 0) : ∃ i, ∃ hi : i < kvs.length, (kvs[i]'hi).1 = x := by
  have h1 := h x
  rw [if_neg hx] at h1
  exact aget_ex h1
theorem conf_hit {a b : List Role} {kvs : List (Key × Int)} (h : UseIs kvs a) (hn : (kvs.map Prod.fst).Nodup) {i : Nat} (hi : i < kvs.length) : confV (useV b (kvs[i]'hi).1) (kvs[i]'hi).2 = true ↔ (useV a (kvs[i]'hi).1 ≠ 0 ∧ useV b (kvs[i]'hi).1 ≠ 0 ∧ (useV a (kvs[i]'hi).1 = 3 ∨ useV b (kvs[i]'hi).1 = 3)) := by
  obtain ⟨h1, h2⟩ := h.at hn hi
  rw [h1, confV_iff (useV_cases _ _) (useV_cases _ _) (.inl h2)]
  constructor
  · rintro ⟨x, y, z⟩; exact ⟨y, x, z.symm⟩
  · rintro ⟨x, y, z⟩; exact ⟨y, x, z.symm⟩
theorem conf_all {a b : List Role} {kvs : List (Key × Int)} (h : UseIs kvs a) (hn : (kvs.map Prod.fst).Nodup) (hall : ∀ i (hi : i < kvs.length), confV (useV b (kvs[i]'hi).1) (kvs[i]'hi).2 = false) : confB a b = false := by
  rw [Bool.eq_false_iff]
  intro hc
  obtain ⟨x, h1, h2, h3⟩ := (conf_iff a b).1 hc
  obtain ⟨i, hi, rfl⟩ := h.ex h1
  have h4 := (conf_hit (b := b) h hn hi).2 ⟨h1, h2, h3⟩
  rw [hall i hi] at h4; cases h4

theorem conflict_ok (w0 : World) (v1 v2 : Value) (a b : List Role) (ha : SlR w0 v1 a) (hb : SlR w0 v2 b) : Ret Try.prog 14 #[v1, v2] w0 (fun u w' => u = .bool (confB a b) ∧ Bel w0 w') := by
  refine Ret.enter (args := [v1, v2]) Try.func14 rfl Try.ntmps14 Try.results14 rfl ?_
  have hS := St.start w0
  refine WC.seq (fun K1 hK1 => ?_)
  refine WC.region ?_
  refine WL.op rfl (opW.assignB rfl ?_)
  refine WL.nil ?_
  refine thenQ_n (hK1 _ _ ?_)
  refine WC.seq (fun K2 hK2 => ?_)
  refine WC.region ?_
  refine WL.op rfl (opW.moveV (v := v2) rfl ?_)
  refine WL.op rfl (opW.call (uses_ok _ _ b (hb.bel hS.old)) rfl ?_)
  rintro _ w ⟨kvs1, ⟨r1, rfl, hr1', hM1⟩, hu1, hw⟩
  replace hS := hS.newMap hw hM1 hr1'
  refine WL.op rfl (opW.assignV (v := .map (some r1)) rfl ?_)
  refine WL.nil ?_
  refine thenQ_n (hK2 _ _ ?_)
  refine WC.seq (fun K3 hK3 => ?_)
  refine WC.seq (fun K4 hK4 => ?_)
  refine WC.region ?_
  refine WL.op rfl (opW.moveV (v := v1) rfl ?_)
  refine WL.op rfl (opW.call (uses_ok _ _ a (ha.bel hS.old)) rfl ?_)
  rintro _ w ⟨kvs2, ⟨r2, rfl, hr2', hM2⟩, hu2, hw⟩
  replace hS := hS.newMap hw hM2 hr2'
  refine WL.op rfl (opW.range (κ := Key) (ν := Int) hS (by first | exact .here | exact .there (.here) | exact .there (.there (.here)) | exact .there (.there (.there (.here))) | exact .there (.there (.there (.there (.here)))) | exact .there (.there (.there (.there (.there (.here))))) | exact .there (.there (.there (.there (.there (.there (.here)))))) | exact .there (.there (.there (.there (.there (.there (.there (.here))))))) | exact .there (.there (.there (.there (.there (.there (.there (.there (.here)))))))) | exact .there (.there (.there (.there (.there (.there (.there (.there (.there (.here))))))))) | exact .there (.there (.there (.there (.there (.there (.there (.there (.there (.there (.here)))))))))) | exact .there (.there (.there (.there (.there (.there (.there (.there (.there (.there (.there (.here))))))))))) | exact .there (.there (.there (.there (.there (.there (.there (.there (.there (.there (.there (.there (.here))))))))))))) rfl ?_)
  intro it w hS; replace hS := hS _ (by first | exact .here | exact .there (.here) | exact .there (.there (.here)) | exact .there (.there (.there (.here))) | exact .there (.there (.there (.there (.here)))) | exact .there (.there (.there (.there (.there (.here))))) | exact .there (.there (.there (.there (.there (.there (.here)))))) | exact .there (.there (.there (.there (.there (.there (.there (.here))))))) | exact .there (.there (.there (.there (.there (.there (.there (.there (.here)))))))) | exact .there (.there (.there (.there (.there (.there (.there (.there (.there (.here))))))))) | exact .there (.there (.there (.there (.there (.there (.there (.there (.there (.there (.here)))))))))) | exact .there (.there (.there (.there (.there (.there (.there (.there (.there (.there (.there (.here))))))))))) | exact .there (.there (.there (.there (.there (.there (.there (.there (.there (.there (.there (.there (.here)))))))))))))
  refine WL.nil ?_
  refine thenQ_n (hK4 _ _ ?_)
  refine WC.block ?_
  refine WC.loop (fun q f w => ∃ is : List Nat, Fits [(5, .map (some r1)), (13, .pointer (some ⟨it, 0, none⟩))] f ∧ St w0 [rngE it r2 (Value.int .i64) kvs2 is, mapE r1 (Value.int .i64) kvs1] w ∧ (∀ i (hi : i < kvs2.length), i ∈ is → confV (useV b (kvs2[i]).1) (kvs2[i]).2 = false) ∧ q = kvs2.length - is.length) (kvs2.length) ?_ ?_
  ·
    exact ⟨[], ⟨rfl, rfl, trivial⟩, hS.sub (by repeat (first | with_reducible exact List.nil_sublist _ | with_reducible exact List.Sublist.refl _ | with_reducible refine List.Sublist.cons₂ _ ?_ | with_reducible refine List.Sublist.cons _ ?_)), fun _ _ h => by simp at h, rfl⟩
  ·
    rintro q f w ⟨is, hfit, hS, hno, hm⟩
    refine WC.fits _ hfit (fun g => ?_)
    clear hfit
    refine WC.seq (fun K5 hK5 => ?_)
    refine WC.region ?_
    refine WL.op rfl (opW.nextV (κ := Key) (ν := Int) hS (by first | exact .here | exact .there (.here) | exact .there (.there (.here)) | exact .there (.there (.there (.here))) | exact .there (.there (.there (.there (.here)))) | exact .there (.there (.there (.there (.there (.here))))) | exact .there (.there (.there (.there (.there (.there (.here)))))) | exact .there (.there (.there (.there (.there (.there (.there (.here))))))) | exact .there (.there (.there (.there (.there (.there (.there (.there (.here)))))))) | exact .there (.there (.there (.there (.there (.there (.there (.there (.there (.here))))))))) | exact .there (.there (.there (.there (.there (.there (.there (.there (.there (.there (.here)))))))))) | exact .there (.there (.there (.there (.there (.there (.there (.there (.there (.there (.there (.here))))))))))) | exact .there (.there (.there (.there (.there (.there (.there (.there (.there (.there (.there (.there (.here))))))))))))) rfl ?_)
    intro bb vs is' w h0 hF hTT hS; replace hS := hS _ (by first | exact .here | exact .there (.here) | exact .there (.there (.here)) | exact .there (.there (.there (.here))) | exact .there (.there (.there (.there (.here)))) | exact .there (.there (.there (.there (.there (.here))))) | exact .there (.there (.there (.there (.there (.there (.here)))))) | exact .there (.there (.there (.there (.there (.there (.there (.here))))))) | exact .there (.there (.there (.there (.there (.there (.there (.there (.here)))))))) | exact .there (.there (.there (.there (.there (.there (.there (.there (.there (.here))))))))) | exact .there (.there (.there (.there (.there (.there (.there (.there (.there (.there (.here)))))))))) | exact .there (.there (.there (.there (.there (.there (.there (.there (.there (.there (.there (.here))))))))))) | exact .there (.there (.there (.there (.there (.there (.there (.there (.there (.there (.there (.there (.here)))))))))))))
    refine WL.op rfl (opW.extract rfl h0 ?_)
    refine WL.nil ?_
    refine thenQ_n (hK5 _ _ ?_)
    refine WC.seq (fun K6 hK6 => ?_)
    refine WC.cond _ rfl (fun hc0 => ?_) (fun hc0 => ?_)
    ·
      have hr0 := hc0
      try simp only [decide_eq_true_eq, decide_eq_false_iff_not, Bool.and_eq_true, Bool.or_eq_true, Bool.and_eq_false_iff, Bool.or_eq_false_iff, Bool.not_eq_true', Bool.not_eq_false', Int.not_lt, Int.not_le] at hc0
      obtain ⟨i, hi, hni, hlt, rfl⟩ := hTT hr0
      have hRM := hS.rng (by first | exact .here | exact .there (.here) | exact .there (.there (.here)) | exact .there (.there (.there (.here))) | exact .there (.there (.there (.there (.here)))) | exact .there (.there (.there (.there (.there (.here))))) | exact .there (.there (.there (.there (.there (.there (.here)))))) | exact .there (.there (.there (.there (.there (.there (.there (.here))))))) | exact .there (.there (.there (.there (.there (.there (.there (.there (.here)))))))) | exact .there (.there (.there (.there (.there (.there (.there (.there (.there (.here))))))))) | exact .there (.there (.there (.there (.there (.there (.there (.there (.there (.there (.here)))))))))) | exact .there (.there (.there (.there (.there (.there (.there (.there (.there (.there (.there (.here))))))))))) | exact .there (.there (.there (.there (.there (.there (.there (.there (.there (.there (.there (.there (.here)))))))))))))
      refine WC.skip ?_
      refine thenQ_n (hK6 _ _ ?_)
      refine WC.block ?_
      refine WC.seq (fun K7 hK7 => ?_)
      refine WC.region ?_
      refine WL.op rfl (opW.entryM hRM hi rfl ?_)
      refine WL.op rfl (opW.extract rfl rfl ?_)
      refine WL.op rfl (opW.extract rfl rfl ?_)
      refine WL.op rfl (opW.allocA hS ?_)
      intro b6 w _ hS
      refine WL.op0 (opW.storeE hS rfl rfl (by first | exact .here | exact .there (.here) | exact .there (.there (.here)) | exact .there (.there (.there (.here))) | exact .there (.there (.there (.there (.here)))) | exact .there (.there (.there (.there (.there (.here))))) | exact .there (.there (.there (.there (.there (.there (.here)))))) | exact .there (.there (.there (.there (.there (.there (.there (.here))))))) | exact .there (.there (.there (.there (.there (.there (.there (.there (.here)))))))) | exact .there (.there (.there (.there (.there (.there (.there (.there (.there (.here))))))))) | exact .there (.there (.there (.there (.there (.there (.there (.there (.there (.there (.here)))))))))) | exact .there (.there (.there (.there (.there (.there (.there (.there (.there (.there (.there (.here))))))))))) | exact .there (.there (.there (.there (.there (.there (.there (.there (.there (.there (.there (.there (.here))))))))))))) (by first | rfl | exact Enc.size_eq _) ?_)
      intro w hS; replace hS := hS _ (by first | exact .here | exact .there (.here) | exact .there (.there (.here)) | exact .there (.there (.there (.here))) | exact .there (.there (.there (.there (.here)))) | exact .there (.there (.there (.there (.there (.here))))) | exact .there (.there (.there (.there (.there (.there (.here)))))) | exact .there (.there (.there (.there (.there (.there (.there (.here))))))) | exact .there (.there (.there (.there (.there (.there (.there (.there (.here)))))))) | exact .there (.there (.there (.there (.there (.there (.there (.there (.there (.here))))))))) | exact .there (.there (.there (.there (.there (.there (.there (.there (.there (.there (.here)))))))))) | exact .there (.there (.there (.there (.there (.there (.there (.there (.there (.there (.there (.here))))))))))) | exact .there (.there (.there (.there (.there (.there (.there (.there (.there (.there (.there (.there (.here)))))))))))))
      refine WL.op rfl (opW.assignV (v := .int .i64 (kvs2[i]).2) rfl ?_)
      refine WL.nil ?_
      refine thenQ_n (hK7 _ _ ?_)
      refine WC.seq (fun K8 hK8 => ?_)
      refine WC.region ?_
      refine WL.op rfl (opW.moveV (v := .map (some r1)) rfl ?_)
      refine WL.op rfl (opW.loadV rfl (by first | exact hS.ldA (by first | exact .here | exact .there (.here) | exact .there (.there (.here)) | exact .there (.there (.there (.here))) | exact .there (.there (.there (.there (.here)))) | exact .there (.there (.there (.there (.there (.here))))) | exact .there (.there (.there (.there (.there (.there (.here)))))) | exact .there (.there (.there (.there (.there (.there (.there (.here))))))) | exact .there (.there (.there (.there (.there (.there (.there (.there (.here)))))))) | exact .there (.there (.there (.there (.there (.there (.there (.there (.there (.here))))))))) | exact .there (.there (.there (.there (.there (.there (.there (.there (.there (.there (.here)))))))))) | exact .there (.there (.there (.there (.there (.there (.there (.there (.there (.there (.there (.here))))))))))) | exact .there (.there (.there (.there (.there (.there (.there (.there (.there (.there (.there (.there (.here))))))))))))) (by first | rfl | exact Enc.size_eq _) | exact hS.ld1 (by first | exact .here | exact .there (.here) | exact .there (.there (.here)) | exact .there (.there (.there (.here))) | exact .there (.there (.there (.there (.here)))) | exact .there (.there (.there (.there (.there (.here))))) | exact .there (.there (.there (.there (.there (.there (.here)))))) | exact .there (.there (.there (.there (.there (.there (.there (.here))))))) | exact .there (.there (.there (.there (.there (.there (.there (.there (.here)))))))) | exact .there (.there (.there (.there (.there (.there (.there (.there (.there (.here))))))))) | exact .there (.there (.there (.there (.there (.there (.there (.there (.there (.there (.here)))))))))) | exact .there (.there (.there (.there (.there (.there (.there (.there (.there (.there (.there (.here))))))))))) | exact .there (.there (.there (.there (.there (.there (.there (.there (.there (.there (.there (.there (.here))))))))))))) rfl) ?_)
      refine WL.op rfl (opW.lookupZ (k := (kvs2[i]).1) (vv := Value.int .i64) (z0 := 0) inferInstance (hS.map (by first | exact .here | exact .there (.here) | exact .there (.there (.here)) | exact .there (.there (.there (.here))) | exact .there (.there (.there (.there (.here)))) | exact .there (.there (.there (.there (.there (.here))))) | exact .there (.there (.there (.there (.there (.there (.here)))))) | exact .there (.there (.there (.there (.there (.there (.there (.here))))))) | exact .there (.there (.there (.there (.there (.there (.there (.there (.here)))))))) | exact .there (.there (.there (.there (.there (.there (.there (.there (.there (.here))))))))) | exact .there (.there (.there (.there (.there (.there (.there (.there (.there (.there (.here)))))))))) | exact .there (.there (.there (.there (.there (.there (.there (.there (.there (.there (.there (.here))))))))))) | exact .there (.there (.there (.there (.there (.there (.there (.there (.there (.there (.there (.there (.here)))))))))))))) rfl rfl (hu1.got _) ?_)
      refine WL.op rfl (opW.assignI rfl ?_)
      refine WL.nil ?_
      refine thenQ_n (hK8 _ _ ?_)
      refine WC.seq (fun K9 hK9 => ?_)
      refine WC.region ?_
      refine WL.op rfl (opW.moveI rfl ?_)
      refine WL.op rfl (opW.gtr rfl rfl ?_)
      refine WL.op rfl (opW.moveB rfl ?_)
      refine WL.gd _ 24 _ rfl rfl rfl rfl (fun hg25 => opW.moveI rfl ⟨rfl, Bel.refl _⟩) (fun w hw => ?_)
      replace hS := hS.bel hw
      refine WL.gd _ 24 _ rfl rfl rfl rfl (fun hg26 => opW.moveI rfl ⟨rfl, Bel.refl _⟩) (fun w hw => ?_)
      replace hS := hS.bel hw
      refine WL.gd _ 24 _ rfl rfl rfl rfl (fun hg27 => opW.or (by first | exact gv_of rfl hg27 | rfl) (by first | exact gv_of rfl hg27 | rfl) (rfl) ⟨rfl, Bel.refl _⟩) (fun w hw => ?_)
      replace hS := hS.bel hw
      refine WL.gd _ 24 _ rfl rfl rfl rfl (fun hg28 => opW.and (by first | exact gv_of rfl hg28 | rfl) rfl (rfl) ⟨rfl, Bel.refl _⟩) (fun w hw => ?_)
      replace hS := hS.bel hw
      refine WL.gd _ 24 _ rfl rfl rfl rfl (fun hg29 => opW.gtr (by first | exact gv_of rfl hg29 | rfl) rfl ⟨rfl, Bel.refl _⟩) (fun w hw => ?_)
      replace hS := hS.bel hw
      refine WL.op rfl (opW.pickAnd rfl (by first | rfl) rfl ?_)
      refine WL.nil ?_
      refine thenQ_n (hK9 _ _ ?_)
      refine WC.cond _ rfl (fun hc1 => ?_) (fun hc1 => ?_)
      ·
        have hr1 := hc1
        try simp only [decide_eq_true_eq, decide_eq_false_iff_not, Bool.and_eq_true, Bool.or_eq_true, Bool.and_eq_false_iff, Bool.or_eq_false_iff, Bool.not_eq_true', Bool.not_eq_false', Int.not_lt, Int.not_le] at hc1
        refine WC.seq (fun K10 hK10 => ?_)
        refine WC.region ?_
        refine WL.op rfl (opW.assignB rfl ?_)
        refine WL.nil ?_
        refine thenQ_n (hK10 _ _ ?_)
        refine WC.ret ?_
        refine blockQ_r ?_
        refine thenQ_r ?_
        refine blockQ_r ?_
        refine thenQ_r ?_
        refine bodyQ_ret (.tmpB rfl .nil) ?_
        obtain ⟨es, c, _, hmi⟩ := hRM.map
        have hc := (conf_hit (b := b) hu2 hmi.2.2 hi).1 hr1
        exact ⟨congrArg Value.bool ((conf_iff a b).2 ⟨_, hc⟩).symm, hS.old⟩
      ·
        have hr1 := hc1
        try simp only [decide_eq_true_eq, decide_eq_false_iff_not, Bool.and_eq_true, Bool.or_eq_true, Bool.and_eq_false_iff, Bool.or_eq_false_iff, Bool.not_eq_true', Bool.not_eq_false', Int.not_lt, Int.not_le] at hc1
        refine WC.skip ?_
        refine blockQ_n ?_
        refine thenQ_n ?_
        refine ⟨kvs2.length - (is ++ [i]).length, by simp; omega, is ++ [i], ⟨rfl, rfl, trivial⟩, hS.sub (by repeat (first | with_reducible exact List.nil_sublist _ | with_reducible exact List.Sublist.refl _ | with_reducible refine List.Sublist.cons₂ _ ?_ | with_reducible refine List.Sublist.cons _ ?_)), ?_, rfl⟩
        intro j hj hm2
        rcases List.mem_append.1 hm2 with h | h
        · exact hno j hj h
        · simp at h; subst h; exact hr1
    ·
      have hr0 := hc0
      try simp only [decide_eq_true_eq, decide_eq_false_iff_not, Bool.and_eq_true, Bool.or_eq_true, Bool.and_eq_false_iff, Bool.or_eq_false_iff, Bool.not_eq_true', Bool.not_eq_false', Int.not_lt, Int.not_le] at hc0
      obtain ⟨_, hall⟩ := hF hr0
      refine WC.exit ?_
      refine thenQ_e ?_
      refine thenQ_e ?_
      refine blockQ_hit ?_
      refine thenQ_n (hK3 _ _ ?_)
      refine WC.seq (fun K11 hK11 => ?_)
      refine WC.region ?_
      refine WL.op rfl (opW.assignB rfl ?_)
      refine WL.nil ?_
      refine thenQ_n (hK11 _ _ ?_)
      refine WC.ret ?_
      refine bodyQ_ret (.tmpB rfl .nil) ?_
      have hRM := hS.rng (by first | exact .here | exact .there (.here) | exact .there (.there (.here)) | exact .there (.there (.there (.here))) | exact .there (.there (.there (.there (.here)))) | exact .there (.there (.there (.there (.there (.here))))) | exact .there (.there (.there (.there (.there (.there (.here)))))) | exact .there (.there (.there (.there (.there (.there (.there (.here))))))) | exact .there (.there (.there (.there (.there (.there (.there (.there (.here)))))))) | exact .there (.there (.there (.there (.there (.there (.there (.there (.there (.here))))))))) | exact .there (.there (.there (.there (.there (.there (.there (.there (.there (.there (.here)))))))))) | exact .there (.there (.there (.there (.there (.there (.there (.there (.there (.there (.there (.here))))))))))) | exact .there (.there (.there (.there (.there (.there (.there (.there (.there (.there (.there (.there (.here)))))))))))))
      obtain ⟨es, c, _, hmi⟩ := hRM.map
      exact ⟨congrArg Value.bool (conf_all hu2 hmi.2.2 fun i hi => hno i hi (hall i hi)).symm, hS.old⟩

end Go.Fer
