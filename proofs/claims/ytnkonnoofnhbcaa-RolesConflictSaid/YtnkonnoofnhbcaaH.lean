/- uses -/
import Derived.Test.YtnkonnoofnhbcaaG
set_option linter.all false
namespace Go.Fer
open Go Go.Proofs Go.RowKit

/-- how a list of roles uses a key: 3: it is written; 1: it is there; 0: it is not -/
def useV (l : List Role) (x : Key) : Int := if l.any (fun r => decide (r.key = x) && r.writes) = true then 3 else if l.any (fun r => decide (r.key = x)) = true then 1 else 0
theorem useV_cases (l : List Role) (x : Key) : useV l x = 0 ∨ useV l x = 1 ∨ useV l x = 3 := by
  unfold useV; split
  · exact .inr (.inr rfl)
  · split
    · exact .inr (.inl rfl)
    · exact .inl rfl
def UseIs (kvs : List (Key × Int)) (l : List Role) : Prop := ∀ x : Key, aget x kvs = if useV l x = 0 then none else some (useV l x)
theorem UseIs.nil : UseIs [] [] := fun x => by simp [aget, useV]
theorem UseIs.got {kvs : List (Key × Int)} {l : List Role} (h : UseIs kvs l) (x : Key) : (aget x kvs).getD 0 = useV l x := by
  rw [h x]; split
  · rename_i e; rw [e]; rfl
  · rfl
theorem or2 {a : Int} (h : a = 0 ∨ a = 1 ∨ a = 3) : bitsI .or .i64 a 2 = if a = 0 then 2 else 3 := by rcases h with rfl | rfl | rfl <;> decide
theorem or1 {a : Int} (h : a = 0 ∨ a = 1 ∨ a = 2 ∨ a = 3) : bitsI .or .i64 a 1 = if a = 0 ∨ a = 1 then 1 else 3 := by rcases h with rfl | rfl | rfl | rfl <;> decide
theorem useV_step {l : List Role} {k : Nat} (hk : k < l.length) (x : Key) : useV (l.take (k + 1)) x = if l[k].key = x then (if l[k].writes = true then 3 else if useV (l.take k) x = 3 then 3 else 1) else useV (l.take k) x := by
  rw [List.take_succ_eq_append_getElem hk]
  unfold useV
  simp only [List.any_append, List.any_cons, List.any_nil, Bool.or_false]
  by_cases h1 : l[k].key = x
  · by_cases h2 : l[k].writes = true
    · simp [h1, h2]
    · simp only [h1, h2, decide_true, Bool.true_and, if_true]
      cases (l.take k).any (fun r => decide (r.key = x) && r.writes) <;> simp
      split <;> simp
  · simp [h1]

theorem uses_ok (w0 : World) (v : Value) (xs : List Role) (hx : SlR w0 v xs) : Ret Try.prog 30 #[v] w0 (fun u w' => ∃ kvs : List (Key × Int), NewM w0 w' u (Value.int .i64) kvs ∧ UseIs kvs xs ∧ Bel w0 w') := by
  refine Ret.enter (args := [v]) Try.func30 rfl Try.ntmps30 Try.results30 rfl ?_
  have hS := St.start w0
  refine WC.seq (fun K1 hK1 => ?_)
  refine WC.region ?_
  refine WL.op rfl (opW.assignV (v := .map none) rfl ?_)
  refine WL.nil ?_
  refine thenQ_n (hK1 _ _ ?_)
  refine WC.seq (fun K2 hK2 => ?_)
  refine WC.region ?_
  refine WL.op rfl (opW.makeMap Key (Value.int .i64) hS ?_)
  intro r w _ hS
  refine WL.op rfl (opW.assignV (v := .map (some r)) rfl ?_)
  refine WL.nil ?_
  refine thenQ_n (hK2 _ _ ?_)
  refine WC.seq (fun K3 hK3 => ?_)
  refine WC.seq (fun K4 hK4 => ?_)
  refine WC.region ?_
  refine WL.op rfl (opW.moveV (v := v) rfl ?_)
  refine WL.op rfl (opW.lenV rfl ((hx.bel hS.old)) ?_)
  refine WL.op rfl (opW.moveI rfl ?_)
  refine WL.nil ?_
  refine thenQ_n (hK4 _ _ ?_)
  refine WC.block ?_
  refine WC.loop (fun q f w => ∃ (k : Nat) (kvs : List (Key × Int)), Fits [(3, .map (some r)), (7, v), (8, .int .i64 (xs.length : Int)), (9, .int .i64 (k : Int))] f ∧ St w0 [mapE r (Value.int .i64) kvs] w ∧ UseIs kvs (xs.take k) ∧ k ≤ xs.length ∧ q = xs.length - k) (xs.length) ?_ ?_
  ·
    exact ⟨0, [], ⟨rfl, rfl, rfl, rfl, trivial⟩, hS, by simpa using UseIs.nil, Nat.zero_le _, rfl⟩
  ·
    rintro q f w ⟨k, kvs, hfit, hS, hus, hk0, hm⟩
    refine WC.fits _ hfit (fun g => ?_)
    clear hfit
    refine WC.seq (fun K5 hK5 => ?_)
    refine WC.region ?_
    refine WL.op rfl (opW.lss rfl rfl ?_)
    refine WL.nil ?_
    refine thenQ_n (hK5 _ _ ?_)
    refine WC.seq (fun K6 hK6 => ?_)
    refine WC.cond _ rfl (fun hc0 => ?_) (fun hc0 => ?_)
    ·
      have hr0 := hc0
      try simp only [decide_eq_true_eq, decide_eq_false_iff_not, Bool.and_eq_true, Bool.or_eq_true, Bool.and_eq_false_iff, Bool.or_eq_false_iff, Bool.not_eq_true', Bool.not_eq_false', Int.not_lt, Int.not_le] at hc0
      have hkl : k < xs.length := by omega
      have hle := hx.le
      simp only [maxLen] at hle
      have huc := useV_cases (xs.take k) xs[k].key
      have huk := hus.got xs[k].key
      refine WC.skip ?_
      refine thenQ_n (hK6 _ _ ?_)
      refine WC.seq (fun K7 hK7 => ?_)
      refine WC.block ?_
      refine WC.seq (fun K8 hK8 => ?_)
      refine WC.region ?_
      refine WL.op rfl (opW.idxV rfl ((hx.bel hS.old)) rfl (by omega) ?_)
      refine WL.op rfl (opW.loadV rfl (((hx.bel hS.old).isPt hkl).ldA (Enc.size_eq xs[k])) ?_)
      refine WL.op rfl (opW.allocA hS ?_)
      intro b5 w _ hS
      refine WL.op0 (opW.storeE hS rfl rfl (by first | exact .here | exact .there (.here) | exact .there (.there (.here)) | exact .there (.there (.there (.here))) | exact .there (.there (.there (.there (.here)))) | exact .there (.there (.there (.there (.there (.here))))) | exact .there (.there (.there (.there (.there (.there (.here)))))) | exact .there (.there (.there (.there (.there (.there (.there (.here))))))) | exact .there (.there (.there (.there (.there (.there (.there (.there (.here)))))))) | exact .there (.there (.there (.there (.there (.there (.there (.there (.there (.here))))))))) | exact .there (.there (.there (.there (.there (.there (.there (.there (.there (.there (.here)))))))))) | exact .there (.there (.there (.there (.there (.there (.there (.there (.there (.there (.there (.here))))))))))) | exact .there (.there (.there (.there (.there (.there (.there (.there (.there (.there (.there (.there (.here))))))))))))) (by first | rfl | exact Enc.size_eq _) ?_)
      intro w hS; replace hS := hS _ (by first | exact .here | exact .there (.here) | exact .there (.there (.here)) | exact .there (.there (.there (.here))) | exact .there (.there (.there (.there (.here)))) | exact .there (.there (.there (.there (.there (.here))))) | exact .there (.there (.there (.there (.there (.there (.here)))))) | exact .there (.there (.there (.there (.there (.there (.there (.here))))))) | exact .there (.there (.there (.there (.there (.there (.there (.there (.here)))))))) | exact .there (.there (.there (.there (.there (.there (.there (.there (.there (.here))))))))) | exact .there (.there (.there (.there (.there (.there (.there (.there (.there (.there (.here)))))))))) | exact .there (.there (.there (.there (.there (.there (.there (.there (.there (.there (.there (.here))))))))))) | exact .there (.there (.there (.there (.there (.there (.there (.there (.there (.there (.there (.there (.here)))))))))))))
      refine WL.nil ?_
      refine thenQ_n (hK8 _ _ ?_)
      refine WC.mid (fun f w => ∃ kvs1 : List (Key × Int), Fits [(3, .map (some r)), (5, .pointer (some ⟨b5, 0, none⟩)), (7, v), (8, .int .i64 (xs.length : Int)), (9, .int .i64 (k : Int))] f ∧ St w0 [blkE b5 (Enc.enc xs[k]) 41, mapE r (Value.int .i64) kvs1] w ∧ (aget xs[k].key kvs1).getD 0 = (if xs[k].writes = true then (if useV (xs.take k) xs[k].key = 0 then 2 else 3) else useV (xs.take k) xs[k].key) ∧ ∀ x, x ≠ xs[k].key → aget x kvs1 = aget x kvs) ?_ ?_
      ·
        refine WC.seq (fun K9 hK9 => ?_)
        refine WC.region ?_
        refine WL.op rfl (opW.fieldAddrB rfl ?_)
        refine WL.op rfl (opW.loadV rfl (hS.ld1 (by first | exact .here | exact .there (.here) | exact .there (.there (.here)) | exact .there (.there (.there (.here))) | exact .there (.there (.there (.there (.here)))) | exact .there (.there (.there (.there (.there (.here))))) | exact .there (.there (.there (.there (.there (.there (.here)))))) | exact .there (.there (.there (.there (.there (.there (.there (.here))))))) | exact .there (.there (.there (.there (.there (.there (.there (.there (.here)))))))) | exact .there (.there (.there (.there (.there (.there (.there (.there (.there (.here))))))))) | exact .there (.there (.there (.there (.there (.there (.there (.there (.there (.there (.here)))))))))) | exact .there (.there (.there (.there (.there (.there (.there (.there (.there (.there (.there (.here))))))))))) | exact .there (.there (.there (.there (.there (.there (.there (.there (.there (.there (.there (.there (.here))))))))))))) (Role.at_writes _)) ?_)
        refine WL.nil ?_
        refine thenQ_n (hK9 _ _ ?_)
        refine WC.cond _ rfl (fun hc1 => ?_) (fun hc1 => ?_)
        ·
          have hr1 := hc1
          try simp only [decide_eq_true_eq, decide_eq_false_iff_not, Bool.and_eq_true, Bool.or_eq_true, Bool.and_eq_false_iff, Bool.or_eq_false_iff, Bool.not_eq_true', Bool.not_eq_false', Int.not_lt, Int.not_le] at hc1
          have hwr : xs[k].writes = true := hr1
          refine WC.drawI 7 (.look 0 (.look 1 (.look 2 (.look 3 (.look 4 (.one 5 (.look 6 (.one 7 .nil)))))))) (by kernel_rfl) (fun _ _ _ h => h) (fun w1 hw1 => ?_)
          replace hS := hS.bel hw1
          have hS1 := hS
          refine ⟨fun w => ∃ kvs2 : List (Key × Int), (aget xs[k].key kvs2).getD 0 = useV (xs.take k) xs[k].key ∧ St w0 [blkE b5 (Enc.enc xs[k]) 41, mapE r (Value.int .i64) kvs2] w, ⟨kvs, huk, hS.sub (by repeat (first | with_reducible exact List.nil_sublist _ | with_reducible exact List.Sublist.refl _ | with_reducible refine List.Sublist.cons₂ _ ?_ | with_reducible refine List.Sublist.cons _ ?_))⟩, ?_⟩
          refine ML.look rfl rfl rfl (fun w hw => (by obtain ⟨kvs2, hg2, hS⟩ := hw; exact opW.moveV (v := .map (some r)) rfl ⟨rfl, rfl⟩)) ?_
          refine ML.look rfl rfl rfl (fun w hw => (by obtain ⟨kvs2, hg2, hS⟩ := hw; exact opW.fieldAddrB rfl ⟨rfl, rfl⟩)) ?_
          refine ML.look rfl rfl rfl (fun w hw => (by obtain ⟨kvs2, hg2, hS⟩ := hw; exact opW.loadV rfl (hS.ldF (by first | exact .here | exact .there (.here) | exact .there (.there (.here)) | exact .there (.there (.there (.here))) | exact .there (.there (.there (.there (.here)))) | exact .there (.there (.there (.there (.there (.here))))) | exact .there (.there (.there (.there (.there (.there (.here)))))) | exact .there (.there (.there (.there (.there (.there (.there (.here))))))) | exact .there (.there (.there (.there (.there (.there (.there (.there (.here)))))))) | exact .there (.there (.there (.there (.there (.there (.there (.there (.there (.here))))))))) | exact .there (.there (.there (.there (.there (.there (.there (.there (.there (.there (.here)))))))))) | exact .there (.there (.there (.there (.there (.there (.there (.there (.there (.there (.there (.here))))))))))) | exact .there (.there (.there (.there (.there (.there (.there (.there (.there (.there (.there (.there (.here))))))))))))) (Role.ex_key _) (by rw [Enc.size_eq]; decide)) ⟨rfl, rfl⟩)) ?_
          refine ML.look rfl rfl rfl (fun w hw => (by obtain ⟨kvs2, hg2, hS⟩ := hw; exact opW.lookupZ (vv := Value.int .i64) (z0 := 0) inferInstance (hS.map (by first | exact .here | exact .there (.here) | exact .there (.there (.here)) | exact .there (.there (.there (.here))) | exact .there (.there (.there (.there (.here)))) | exact .there (.there (.there (.there (.there (.here))))) | exact .there (.there (.there (.there (.there (.there (.here)))))) | exact .there (.there (.there (.there (.there (.there (.there (.here))))))) | exact .there (.there (.there (.there (.there (.there (.there (.there (.here)))))))) | exact .there (.there (.there (.there (.there (.there (.there (.there (.there (.here))))))))) | exact .there (.there (.there (.there (.there (.there (.there (.there (.there (.there (.here)))))))))) | exact .there (.there (.there (.there (.there (.there (.there (.there (.there (.there (.there (.here))))))))))) | exact .there (.there (.there (.there (.there (.there (.there (.there (.there (.there (.there (.there (.here)))))))))))))) rfl rfl hg2 ⟨rfl, rfl⟩)) ?_
          refine ML.look rfl rfl rfl (fun w hw => (by obtain ⟨kvs2, hg2, hS⟩ := hw; exact opW.or rfl rfl (or2 huc) ⟨rfl, rfl⟩)) ?_
          refine ML.one rfl rfl rfl (opW.mapEntry (vv := Value.int .i64) (z0 := 0) inferInstance hS (by first | exact .here | exact .there (.here) | exact .there (.there (.here)) | exact .there (.there (.there (.here))) | exact .there (.there (.there (.there (.here)))) | exact .there (.there (.there (.there (.there (.here))))) | exact .there (.there (.there (.there (.there (.there (.here)))))) | exact .there (.there (.there (.there (.there (.there (.there (.here))))))) | exact .there (.there (.there (.there (.there (.there (.there (.there (.here)))))))) | exact .there (.there (.there (.there (.there (.there (.there (.there (.there (.here))))))))) | exact .there (.there (.there (.there (.there (.there (.there (.there (.there (.there (.here)))))))))) | exact .there (.there (.there (.there (.there (.there (.there (.there (.there (.there (.there (.here))))))))))) | exact .there (.there (.there (.there (.there (.there (.there (.there (.there (.there (.there (.there (.here))))))))))))) rfl rfl ?_)
          intro born w hS; replace hS := hS _ (by first | exact .here | exact .there (.here) | exact .there (.there (.here)) | exact .there (.there (.there (.here))) | exact .there (.there (.there (.there (.here)))) | exact .there (.there (.there (.there (.there (.here))))) | exact .there (.there (.there (.there (.there (.there (.here)))))) | exact .there (.there (.there (.there (.there (.there (.there (.here))))))) | exact .there (.there (.there (.there (.there (.there (.there (.there (.here)))))))) | exact .there (.there (.there (.there (.there (.there (.there (.there (.there (.here))))))))) | exact .there (.there (.there (.there (.there (.there (.there (.there (.there (.there (.here)))))))))) | exact .there (.there (.there (.there (.there (.there (.there (.there (.there (.there (.there (.here))))))))))) | exact .there (.there (.there (.there (.there (.there (.there (.there (.there (.there (.there (.there (.here)))))))))))))
          refine ⟨⟨_, by rw [aget_aput, if_pos rfl]; exact huk, hS.mapDrop (.there .here)⟩, ?_⟩
          refine ML.look rfl rfl rfl (fun w hw => (by obtain ⟨kvs2, hg2, hS⟩ := hw; exact opW.extract rfl rfl ⟨rfl, rfl⟩)) ?_
          refine ML.put0 rfl rfl rfl (opW.entryStore (k := xs[k].key) (vv := Value.int .i64) hS (by first | exact .here | exact .there (.here) | exact .there (.there (.here)) | exact .there (.there (.there (.here))) | exact .there (.there (.there (.there (.here)))) | exact .there (.there (.there (.there (.there (.here))))) | exact .there (.there (.there (.there (.there (.there (.here)))))) | exact .there (.there (.there (.there (.there (.there (.there (.here))))))) | exact .there (.there (.there (.there (.there (.there (.there (.there (.here)))))))) | exact .there (.there (.there (.there (.there (.there (.there (.there (.there (.here))))))))) | exact .there (.there (.there (.there (.there (.there (.there (.there (.there (.there (.here)))))))))) | exact .there (.there (.there (.there (.there (.there (.there (.there (.there (.there (.there (.here))))))))))) | exact .there (.there (.there (.there (.there (.there (.there (.there (.there (.there (.there (.there (.here))))))))))))) rfl rfl rfl ?_)
          intro w hS; replace hS := hS _ (by first | exact .here | exact .there (.here) | exact .there (.there (.here)) | exact .there (.there (.there (.here))) | exact .there (.there (.there (.there (.here)))) | exact .there (.there (.there (.there (.there (.here))))) | exact .there (.there (.there (.there (.there (.there (.here)))))) | exact .there (.there (.there (.there (.there (.there (.there (.here))))))) | exact .there (.there (.there (.there (.there (.there (.there (.there (.here)))))))) | exact .there (.there (.there (.there (.there (.there (.there (.there (.there (.here))))))))) | exact .there (.there (.there (.there (.there (.there (.there (.there (.there (.there (.here)))))))))) | exact .there (.there (.there (.there (.there (.there (.there (.there (.there (.there (.there (.here))))))))))) | exact .there (.there (.there (.there (.there (.there (.there (.there (.there (.there (.there (.there (.here)))))))))))))
          refine ML.nil ?_
          rw [aput_aput] at hS
          refine thenQ_n ?_
          first | exact ⟨_, ⟨rfl, rfl, rfl, rfl, rfl, trivial⟩, hS.sub (by repeat (first | with_reducible exact List.nil_sublist _ | with_reducible exact List.Sublist.refl _ | with_reducible refine List.Sublist.cons₂ _ ?_ | with_reducible refine List.Sublist.cons _ ?_)), (by rw [aget_aput, if_pos rfl, if_pos hwr]; rfl), fun x hx => (by rw [aget_aput, if_neg hx])⟩ | exact ⟨kvs, ⟨rfl, rfl, rfl, rfl, rfl, trivial⟩, hS.sub (by repeat (first | with_reducible exact List.nil_sublist _ | with_reducible exact List.Sublist.refl _ | with_reducible refine List.Sublist.cons₂ _ ?_ | with_reducible refine List.Sublist.cons _ ?_)), (by rw [hwr]; exact huk), fun _ _ => rfl⟩
        ·
          have hr1 := hc1
          try simp only [decide_eq_true_eq, decide_eq_false_iff_not, Bool.and_eq_true, Bool.or_eq_true, Bool.and_eq_false_iff, Bool.or_eq_false_iff, Bool.not_eq_true', Bool.not_eq_false', Int.not_lt, Int.not_le] at hc1
          have hwr : xs[k].writes = false := hr1
          refine WC.skip ?_
          refine thenQ_n ?_
          first | exact ⟨_, ⟨rfl, rfl, rfl, rfl, rfl, trivial⟩, hS.sub (by repeat (first | with_reducible exact List.nil_sublist _ | with_reducible exact List.Sublist.refl _ | with_reducible refine List.Sublist.cons₂ _ ?_ | with_reducible refine List.Sublist.cons _ ?_)), (by rw [aget_aput, if_pos rfl, if_pos hwr]; rfl), fun x hx => (by rw [aget_aput, if_neg hx])⟩ | exact ⟨kvs, ⟨rfl, rfl, rfl, rfl, rfl, trivial⟩, hS.sub (by repeat (first | with_reducible exact List.nil_sublist _ | with_reducible exact List.Sublist.refl _ | with_reducible refine List.Sublist.cons₂ _ ?_ | with_reducible refine List.Sublist.cons _ ?_)), (by rw [hwr]; exact huk), fun _ _ => rfl⟩
      ·
        rintro f w ⟨kvs1, hfit, hS, hg1, ho1⟩
        refine WC.fits _ hfit (fun g => ?_)
        clear hfit
        refine WC.drawI 7 (.look 0 (.look 1 (.look 2 (.look 3 (.look 4 (.one 5 (.look 6 (.one 7 .nil)))))))) (by kernel_rfl) (fun _ _ _ h => h) (fun w1 hw1 => ?_)
        replace hS := hS.bel hw1
        have hS1 := hS
        refine ⟨fun w => ∃ kvs2 : List (Key × Int), (aget xs[k].key kvs2).getD 0 = (if xs[k].writes = true then (if useV (xs.take k) xs[k].key = 0 then 2 else 3) else useV (xs.take k) xs[k].key) ∧ St w0 [blkE b5 (Enc.enc xs[k]) 41, mapE r (Value.int .i64) kvs2] w, ⟨kvs1, hg1, hS.sub (by repeat (first | with_reducible exact List.nil_sublist _ | with_reducible exact List.Sublist.refl _ | with_reducible refine List.Sublist.cons₂ _ ?_ | with_reducible refine List.Sublist.cons _ ?_))⟩, ?_⟩
        refine ML.look rfl rfl rfl (fun w hw => (by obtain ⟨kvs2, hg2, hS⟩ := hw; exact opW.moveV (v := .map (some r)) rfl ⟨rfl, rfl⟩)) ?_
        refine ML.look rfl rfl rfl (fun w hw => (by obtain ⟨kvs2, hg2, hS⟩ := hw; exact opW.fieldAddrB rfl ⟨rfl, rfl⟩)) ?_
        refine ML.look rfl rfl rfl (fun w hw => (by obtain ⟨kvs2, hg2, hS⟩ := hw; exact opW.loadV rfl (hS.ldF (by first | exact .here | exact .there (.here) | exact .there (.there (.here)) | exact .there (.there (.there (.here))) | exact .there (.there (.there (.there (.here)))) | exact .there (.there (.there (.there (.there (.here))))) | exact .there (.there (.there (.there (.there (.there (.here)))))) | exact .there (.there (.there (.there (.there (.there (.there (.here))))))) | exact .there (.there (.there (.there (.there (.there (.there (.there (.here)))))))) | exact .there (.there (.there (.there (.there (.there (.there (.there (.there (.here))))))))) | exact .there (.there (.there (.there (.there (.there (.there (.there (.there (.there (.here)))))))))) | exact .there (.there (.there (.there (.there (.there (.there (.there (.there (.there (.there (.here))))))))))) | exact .there (.there (.there (.there (.there (.there (.there (.there (.there (.there (.there (.there (.here))))))))))))) (Role.ex_key _) (by rw [Enc.size_eq]; decide)) ⟨rfl, rfl⟩)) ?_
        refine ML.look rfl rfl rfl (fun w hw => (by obtain ⟨kvs2, hg2, hS⟩ := hw; exact opW.lookupZ (vv := Value.int .i64) (z0 := 0) inferInstance (hS.map (by first | exact .here | exact .there (.here) | exact .there (.there (.here)) | exact .there (.there (.there (.here))) | exact .there (.there (.there (.there (.here)))) | exact .there (.there (.there (.there (.there (.here))))) | exact .there (.there (.there (.there (.there (.there (.here)))))) | exact .there (.there (.there (.there (.there (.there (.there (.here))))))) | exact .there (.there (.there (.there (.there (.there (.there (.there (.here)))))))) | exact .there (.there (.there (.there (.there (.there (.there (.there (.there (.here))))))))) | exact .there (.there (.there (.there (.there (.there (.there (.there (.there (.there (.here)))))))))) | exact .there (.there (.there (.there (.there (.there (.there (.there (.there (.there (.there (.here))))))))))) | exact .there (.there (.there (.there (.there (.there (.there (.there (.there (.there (.there (.there (.here)))))))))))))) rfl rfl hg2 ⟨rfl, rfl⟩)) ?_
        refine ML.look rfl rfl rfl (fun w hw => (by obtain ⟨kvs2, hg2, hS⟩ := hw; exact opW.or rfl rfl (or1 (by rcases huc with h | h | h <;> rw [h] <;> cases xs[k].writes <;> simp)) ⟨rfl, rfl⟩)) ?_
        refine ML.one rfl rfl rfl (opW.mapEntry (vv := Value.int .i64) (z0 := 0) inferInstance hS (by first | exact .here | exact .there (.here) | exact .there (.there (.here)) | exact .there (.there (.there (.here))) | exact .there (.there (.there (.there (.here)))) | exact .there (.there (.there (.there (.there (.here))))) | exact .there (.there (.there (.there (.there (.there (.here)))))) | exact .there (.there (.there (.there (.there (.there (.there (.here))))))) | exact .there (.there (.there (.there (.there (.there (.there (.there (.here)))))))) | exact .there (.there (.there (.there (.there (.there (.there (.there (.there (.here))))))))) | exact .there (.there (.there (.there (.there (.there (.there (.there (.there (.there (.here)))))))))) | exact .there (.there (.there (.there (.there (.there (.there (.there (.there (.there (.there (.here))))))))))) | exact .there (.there (.there (.there (.there (.there (.there (.there (.there (.there (.there (.there (.here))))))))))))) rfl rfl ?_)
        intro born w hS; replace hS := hS _ (by first | exact .here | exact .there (.here) | exact .there (.there (.here)) | exact .there (.there (.there (.here))) | exact .there (.there (.there (.there (.here)))) | exact .there (.there (.there (.there (.there (.here))))) | exact .there (.there (.there (.there (.there (.there (.here)))))) | exact .there (.there (.there (.there (.there (.there (.there (.here))))))) | exact .there (.there (.there (.there (.there (.there (.there (.there (.here)))))))) | exact .there (.there (.there (.there (.there (.there (.there (.there (.there (.here))))))))) | exact .there (.there (.there (.there (.there (.there (.there (.there (.there (.there (.here)))))))))) | exact .there (.there (.there (.there (.there (.there (.there (.there (.there (.there (.there (.here))))))))))) | exact .there (.there (.there (.there (.there (.there (.there (.there (.there (.there (.there (.there (.here)))))))))))))
        refine ⟨⟨_, by rw [aget_aput, if_pos rfl]; exact hg1, hS.mapDrop (.there .here)⟩, ?_⟩
        refine ML.look rfl rfl rfl (fun w hw => (by obtain ⟨kvs2, hg2, hS⟩ := hw; exact opW.extract rfl rfl ⟨rfl, rfl⟩)) ?_
        refine ML.put0 rfl rfl rfl (opW.entryStore (k := xs[k].key) (vv := Value.int .i64) hS (by first | exact .here | exact .there (.here) | exact .there (.there (.here)) | exact .there (.there (.there (.here))) | exact .there (.there (.there (.there (.here)))) | exact .there (.there (.there (.there (.there (.here))))) | exact .there (.there (.there (.there (.there (.there (.here)))))) | exact .there (.there (.there (.there (.there (.there (.there (.here))))))) | exact .there (.there (.there (.there (.there (.there (.there (.there (.here)))))))) | exact .there (.there (.there (.there (.there (.there (.there (.there (.there (.here))))))))) | exact .there (.there (.there (.there (.there (.there (.there (.there (.there (.there (.here)))))))))) | exact .there (.there (.there (.there (.there (.there (.there (.there (.there (.there (.there (.here))))))))))) | exact .there (.there (.there (.there (.there (.there (.there (.there (.there (.there (.there (.there (.here))))))))))))) rfl rfl rfl ?_)
        intro w hS; replace hS := hS _ (by first | exact .here | exact .there (.here) | exact .there (.there (.here)) | exact .there (.there (.there (.here))) | exact .there (.there (.there (.there (.here)))) | exact .there (.there (.there (.there (.there (.here))))) | exact .there (.there (.there (.there (.there (.there (.here)))))) | exact .there (.there (.there (.there (.there (.there (.there (.here))))))) | exact .there (.there (.there (.there (.there (.there (.there (.there (.here)))))))) | exact .there (.there (.there (.there (.there (.there (.there (.there (.there (.here))))))))) | exact .there (.there (.there (.there (.there (.there (.there (.there (.there (.there (.here)))))))))) | exact .there (.there (.there (.there (.there (.there (.there (.there (.there (.there (.there (.here))))))))))) | exact .there (.there (.there (.there (.there (.there (.there (.there (.there (.there (.there (.there (.here)))))))))))))
        refine ML.nil ?_
        rw [aput_aput] at hS
        refine blockQ_n ?_
        refine thenQ_n (hK7 _ _ ?_)
        refine WC.region ?_
        refine WL.op rfl (opW.add rfl rfl (wrap_i64 (by omega)) ?_)
        refine WL.op rfl (opW.moveI rfl ?_)
        refine WL.nil ?_
        refine thenQ_n ?_
        refine ⟨xs.length - (k + 1), by omega, k + 1, _, ⟨rfl, rfl, rfl, congrArg (Value.int .i64) (by omega), trivial⟩, hS.sub (by repeat (first | with_reducible exact List.nil_sublist _ | with_reducible exact List.Sublist.refl _ | with_reducible refine List.Sublist.cons₂ _ ?_ | with_reducible refine List.Sublist.cons _ ?_)), ?_, by omega, rfl⟩
        intro x
        rw [useV_step hkl, aget_aput]
        by_cases hxk : xs[k].key = x
        · subst hxk
          rw [if_pos rfl, if_pos rfl]
          rcases huc with h | h | h <;> rw [h] <;> cases xs[k].writes <;> simp
        · rw [if_neg (Ne.symm hxk), if_neg hxk, ho1 x (Ne.symm hxk)]
          exact hus x
    ·
      have hr0 := hc0
      try simp only [decide_eq_true_eq, decide_eq_false_iff_not, Bool.and_eq_true, Bool.or_eq_true, Bool.and_eq_false_iff, Bool.or_eq_false_iff, Bool.not_eq_true', Bool.not_eq_false', Int.not_lt, Int.not_le] at hc0
      have hkk : k = xs.length := by omega
      subst hkk
      rw [List.take_length] at hus
      refine WC.exit ?_
      refine thenQ_e ?_
      refine thenQ_e ?_
      refine blockQ_hit ?_
      refine thenQ_n (hK3 _ _ ?_)
      refine WC.seq (fun K10 hK10 => ?_)
      refine WC.region ?_
      refine WL.op rfl (opW.moveV (v := .map (some r)) rfl ?_)
      refine WL.op rfl (opW.assignV (v := .map (some r)) rfl ?_)
      refine WL.nil ?_
      refine thenQ_n (hK10 _ _ ?_)
      refine WC.ret ?_
      refine bodyQ_ret (.tmpV (v := .map (some r)) rfl .nil) ?_
      exact ⟨kvs, hS.map_new (by first | exact .here | exact .there (.here) | exact .there (.there (.here)) | exact .there (.there (.there (.here))) | exact .there (.there (.there (.there (.here)))) | exact .there (.there (.there (.there (.there (.here))))) | exact .there (.there (.there (.there (.there (.there (.here)))))) | exact .there (.there (.there (.there (.there (.there (.there (.here))))))) | exact .there (.there (.there (.there (.there (.there (.there (.there (.here)))))))) | exact .there (.there (.there (.there (.there (.there (.there (.there (.there (.here))))))))) | exact .there (.there (.there (.there (.there (.there (.there (.there (.there (.there (.here)))))))))) | exact .there (.there (.there (.there (.there (.there (.there (.there (.there (.there (.there (.here))))))))))) | exact .there (.there (.there (.there (.there (.there (.there (.there (.there (.there (.there (.there (.here))))))))))))), hus, hS.old⟩

end Go.Fer
