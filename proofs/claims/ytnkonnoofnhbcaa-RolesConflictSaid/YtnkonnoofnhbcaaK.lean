/- RolesTurned -/
import Derived.Test.YtnkonnoofnhbcaaJ
set_option linter.all false
namespace Go.Fer
open Go Go.Proofs Go.RowKit

def unW (r : Role) : Role := { r with writes := false }
theorem unW_key (r : Role) : (unW r).key = r.key := rfl
theorem unW_writes (r : Role) : (unW r).writes = false := rfl
def mixU (l : List Role) (k : Nat) : List Role := (l.take k).map unW ++ l.drop k
theorem mixU_len (l : List Role) (k : Nat) : (mixU l k).length = l.length := by simp [mixU]; omega
theorem mixU_get {l : List Role} {k : Nat} (hk : k < l.length) : (mixU l k)[k]? = some l[k] := by
  unfold mixU
  rw [List.getElem?_append_right (by simp; omega)]
  simp [Nat.min_eq_left (Nat.le_of_lt hk)]
theorem mixU_set {l : List Role} {k : Nat} (hk : k < l.length) : (mixU l k).set k (unW l[k]) = mixU l (k + 1) := by
  unfold mixU
  have hl : ((l.take k).map unW).length = k := by simp; omega
  rw [List.set_append_right _ _ (by omega), hl, Nat.sub_self, List.drop_eq_getElem_cons hk, List.set_cons_zero, List.take_succ_eq_append_getElem hk, List.map_append, List.append_assoc]
  rfl
theorem mixU_all (l : List Role) : mixU l l.length = l.map unW := by simp [mixU]
theorem conf_mem (a b : List Role) : confB a b = true ↔ ∃ r ∈ a, ∃ s ∈ b, r.key = s.key ∧ (r.writes = true ∨ s.writes = true) := by
  simp [confB]
theorem conf_half (a b : List Role) : (confB (a.map unW) b || confB a (b.map unW)) = confB a b := by
  rw [Bool.eq_iff_iff, Bool.or_eq_true, conf_mem, conf_mem, conf_mem]
  constructor
  · rintro (⟨r, hr, s, hs, hk, hw⟩ | ⟨r, hr, s, hs, hk, hw⟩)
    · obtain ⟨r2, hr2, rfl⟩ := List.mem_map.1 hr
      rcases hw with hw | hw
      · cases hw
      · exact ⟨r2, hr2, s, hs, hk, .inr hw⟩
    · obtain ⟨s2, hs2, rfl⟩ := List.mem_map.1 hs
      rcases hw with hw | hw
      · exact ⟨r, hr, s2, hs2, hk, .inl hw⟩
      · cases hw
  · rintro ⟨r, hr, s, hs, hk, hw⟩
    rcases hw with hw | hw
    · exact .inr ⟨r, hr, unW s, List.mem_map_of_mem hs, hk, .inl hw⟩
    · exact .inl ⟨unW r, List.mem_map_of_mem hr, s, hs, hk, .inr hw⟩
theorem conf_none (a b : List Role) : confB (a.map unW) (b.map unW) = false := by
  rw [Bool.eq_false_iff]
  intro h
  obtain ⟨r, hr, s, hs, _, hw⟩ := (conf_mem _ _).1 h
  obtain ⟨r2, _, rfl⟩ := List.mem_map.1 hr
  obtain ⟨s2, _, rfl⟩ := List.mem_map.1 hs
  rcases hw with hw | hw <;> cases hw
theorem conf_self (a : List Role) : confB a a = decide (0 < ((wrL a).length : Int)) := by
  rw [Bool.eq_iff_iff, conf_mem, decide_eq_true_eq]
  have hl : (0 : Int) < ((wrL a).length : Int) ↔ ∃ r ∈ a, r.writes = true := by
    have : (0 : Int) < ((wrL a).length : Int) ↔ 0 < (wrL a).length := by omega
    rw [this, List.length_pos_iff_exists_mem]
    simp only [wrL, List.mem_map, List.mem_filter]
    constructor
    · rintro ⟨x, r, ⟨h1, h2⟩, _⟩; exact ⟨r, h1, h2⟩
    · rintro ⟨r, h1, h2⟩; exact ⟨r.key, r, ⟨h1, h2⟩, rfl⟩
  rw [hl]
  constructor
  · rintro ⟨r, hr, s, hs, hk, hw | hw⟩
    · exact ⟨r, hr, hw⟩
    · exact ⟨s, hs, hw⟩
  · rintro ⟨r, hr, hw⟩; exact ⟨r, hr, r, hr, rfl, .inl hw⟩
theorem conf_nil (a : List Role) : confB a [] = false := by
  rw [Bool.eq_false_iff]
  intro h
  obtain ⟨r, hr, s, hs, _⟩ := (conf_mem _ _).1 h
  cases hs

theorem turned_law (w0 : World) (v1 v2 : Value) (a b : List Role) (ha : SlR w0 v1 a) (hb : SlR w0 v2 b) : Ret Try.prog 6 #[v1, v2] w0 (fun r w' => r = .bool true ∧ Bel w0 w') := by
  refine Ret.enter (args := [v1, v2]) Try.func6 rfl Try.ntmps6 Try.results6 rfl ?_
  have hS := St.start w0
  refine WC.seq (fun K1 hK1 => ?_)
  refine WC.region ?_
  refine WL.op rfl (opW.assignB rfl ?_)
  refine WL.nil ?_
  refine thenQ_n (hK1 _ _ ?_)
  refine WC.seq (fun K2 hK2 => ?_)
  refine WC.seq (fun K3 hK3 => ?_)
  refine WC.region ?_
  refine WL.op rfl (opW.moveV (v := v1) rfl ?_)
  refine WL.op rfl (opW.lenV rfl ((ha.bel hS.old)) ?_)
  refine WL.op rfl (opW.gtr rfl rfl ?_)
  refine WL.op rfl (opW.moveB rfl ?_)
  refine WL.gd _ 14 _ rfl rfl rfl rfl (fun hg15 => opW.moveV (v := v2) rfl ⟨rfl, Bel.refl _⟩) (fun w hw => ?_)
  replace hS := hS.bel hw
  refine WL.gd _ 14 _ rfl rfl rfl rfl (fun hg16 => opW.lenV (by first | exact gv_of rfl hg16 | rfl) ((hb.bel hS.old)) ⟨rfl, Bel.refl _⟩) (fun w hw => ?_)
  replace hS := hS.bel hw
  refine WL.gd _ 14 _ rfl rfl rfl rfl (fun hg17 => opW.gtr (by first | exact gv_of rfl hg17 | rfl) rfl ⟨rfl, Bel.refl _⟩) (fun w hw => ?_)
  replace hS := hS.bel hw
  refine WL.op rfl (opW.pickOr rfl rfl (by first | rfl) ?_)
  refine WL.nil ?_
  refine thenQ_n (hK3 _ _ ?_)
  refine WC.cond _ rfl (fun hc0 => ?_) (fun hc0 => ?_)
  ·
    have hr0 := hc0
    try simp only [decide_eq_true_eq, decide_eq_false_iff_not, Bool.and_eq_true, Bool.or_eq_true, Bool.and_eq_false_iff, Bool.or_eq_false_iff, Bool.not_eq_true', Bool.not_eq_false', Int.not_lt, Int.not_le] at hc0
    refine WC.seq (fun K4 hK4 => ?_)
    refine WC.region ?_
    refine WL.op rfl (opW.call (lives7 _) rfl ?_)
    rintro _ w ⟨rfl, hw⟩; replace hS := hS.bel hw
    refine WL.op rfl (opW.assignB rfl ?_)
    refine WL.nil ?_
    refine thenQ_n (hK4 _ _ ?_)
    refine WC.ret ?_
    refine thenQ_r ?_
    refine bodyQ_ret (.tmpB rfl .nil) ?_
    exact ⟨rfl, hS.old⟩
  ·
    have hr0 := hc0
    try simp only [decide_eq_true_eq, decide_eq_false_iff_not, Bool.and_eq_true, Bool.or_eq_true, Bool.and_eq_false_iff, Bool.or_eq_false_iff, Bool.not_eq_true', Bool.not_eq_false', Int.not_lt, Int.not_le] at hc0
    simp only [Bool.or_eq_false_iff, decide_eq_false_iff_not] at hr0
    refine WC.skip ?_
    refine thenQ_n (hK2 _ _ ?_)
    refine WC.seq (fun K5 hK5 => ?_)
    refine WC.region ?_
    refine WL.op rfl (opW.moveV (v := v1) rfl ?_)
    refine WL.op rfl (opW.moveV (v := v2) rfl ?_)
    refine WL.op rfl (opW.call (conflict_ok _ _ _ a b (ha.bel hS.old) (hb.bel hS.old)) rfl ?_)
    rintro _ w ⟨rfl, hw⟩; replace hS := hS.bel hw
    refine WL.op rfl (opW.assignB rfl ?_)
    refine WL.nil ?_
    refine thenQ_n (hK5 _ _ ?_)
    refine WC.seq (fun K6 hK6 => ?_)
    refine WC.region ?_
    refine WL.op rfl (opW.moveV (v := v1) rfl ?_)
    refine WL.op rfl (opW.appendNil (α := Role) rfl hS rfl ((ha.bel hS.old)) (by omega) (by simp only [maxLen]; omega) ?_)
    intro v24 w hw hS
    refine WL.op rfl (opW.assignV (v := v24) rfl ?_)
    refine WL.nil ?_
    refine thenQ_n (hK6 _ _ ?_)
    refine WC.seq (fun K7 hK7 => ?_)
    refine WC.region ?_
    refine WL.op rfl (opW.moveV (v := v2) rfl ?_)
    refine WL.op rfl (opW.appendNil (α := Role) rfl hS rfl ((hb.bel hS.old)) (by omega) (by simp only [maxLen]; omega) ?_)
    intro v26 w hw hS
    refine WL.op rfl (opW.assignV (v := v26) rfl ?_)
    refine WL.nil ?_
    refine thenQ_n (hK7 _ _ ?_)
    refine WC.seq (fun K8 hK8 => ?_)
    refine WC.seq (fun K9 hK9 => ?_)
    refine WC.region ?_
    refine WL.op rfl (opW.assignI rfl ?_)
    refine WL.nil ?_
    refine thenQ_n (hK9 _ _ ?_)
    refine WC.block ?_
    refine WC.loop (fun q f w => ∃ k : Nat, Fits [(0, v1), (1, v2), (5, .bool (confB a b)), (6, v24), (7, v26), (8, .int .i64 (k : Int))] f ∧ St w0 [ownE v24 41 (mixU a k), ownE v26 41 b] w ∧ k ≤ a.length ∧ q = a.length - k) (a.length) ?_ ?_
    ·
      exact ⟨0, ⟨rfl, rfl, rfl, rfl, rfl, rfl, trivial⟩, (by rw [show mixU a 0 = a from rfl]; exact hS.swap.sub (by repeat (first | with_reducible exact List.nil_sublist _ | with_reducible exact List.Sublist.refl _ | with_reducible refine List.Sublist.cons₂ _ ?_ | with_reducible refine List.Sublist.cons _ ?_))), Nat.zero_le _, rfl⟩
    ·
      rintro q f w ⟨k, hfit, hS, hk0, hm⟩
      refine WC.fits _ hfit (fun g => ?_)
      clear hfit
      refine WC.seq (fun K10 hK10 => ?_)
      refine WC.seq (fun K11 hK11 => ?_)
      refine WC.region ?_
      refine WL.op rfl (opW.moveI rfl ?_)
      refine WL.op rfl (opW.moveV (v := v24) rfl ?_)
      refine WL.op rfl (opW.lenV rfl ((hS.sl (xs := mixU a k) (by first | exact .here | exact .there (.here) | exact .there (.there (.here)) | exact .there (.there (.there (.here))) | exact .there (.there (.there (.there (.here)))) | exact .there (.there (.there (.there (.there (.here))))) | exact .there (.there (.there (.there (.there (.there (.here)))))) | exact .there (.there (.there (.there (.there (.there (.there (.here))))))) | exact .there (.there (.there (.there (.there (.there (.there (.there (.here)))))))) | exact .there (.there (.there (.there (.there (.there (.there (.there (.there (.here))))))))) | exact .there (.there (.there (.there (.there (.there (.there (.there (.there (.there (.here)))))))))) | exact .there (.there (.there (.there (.there (.there (.there (.there (.there (.there (.there (.here))))))))))) | exact .there (.there (.there (.there (.there (.there (.there (.there (.there (.there (.there (.there (.here))))))))))))))) ?_)
      refine WL.op rfl (opW.lss rfl rfl ?_)
      refine WL.nil ?_
      refine thenQ_n (hK11 _ _ ?_)
      refine WC.cond _ rfl (fun hc1 => ?_) (fun hc1 => ?_)
      ·
        have hr1 := hc1
        try simp only [decide_eq_true_eq, decide_eq_false_iff_not, Bool.and_eq_true, Bool.or_eq_true, Bool.and_eq_false_iff, Bool.or_eq_false_iff, Bool.not_eq_true', Bool.not_eq_false', Int.not_lt, Int.not_le] at hc1
        have hml := mixU_len a k
        have hkl : k < a.length := by omega
        have hmg := mixU_get hkl
        refine WC.skip ?_
        refine thenQ_n (hK10 _ _ ?_)
        refine WC.seq (fun K12 hK12 => ?_)
        refine WC.block ?_
        refine WC.region ?_
        refine WL.op rfl (opW.moveV (v := v24) rfl ?_)
        refine WL.op rfl (opW.moveI rfl ?_)
        refine WL.op rfl (opW.idxV rfl ((hS.sl (xs := mixU a k) (by first | exact .here | exact .there (.here) | exact .there (.there (.here)) | exact .there (.there (.there (.here))) | exact .there (.there (.there (.there (.here)))) | exact .there (.there (.there (.there (.there (.here))))) | exact .there (.there (.there (.there (.there (.there (.here)))))) | exact .there (.there (.there (.there (.there (.there (.there (.here))))))) | exact .there (.there (.there (.there (.there (.there (.there (.there (.here)))))))) | exact .there (.there (.there (.there (.there (.there (.there (.there (.there (.here))))))))) | exact .there (.there (.there (.there (.there (.there (.there (.there (.there (.there (.here)))))))))) | exact .there (.there (.there (.there (.there (.there (.there (.there (.there (.there (.there (.here))))))))))) | exact .there (.there (.there (.there (.there (.there (.there (.there (.there (.there (.there (.there (.here))))))))))))))) rfl (by omega) ?_)
        refine WL.op rfl (opW.fieldAddr rfl ((hS.sl (xs := mixU a k) (by first | exact .here | exact .there (.here) | exact .there (.there (.here)) | exact .there (.there (.there (.here))) | exact .there (.there (.there (.there (.here)))) | exact .there (.there (.there (.there (.there (.here))))) | exact .there (.there (.there (.there (.there (.there (.here)))))) | exact .there (.there (.there (.there (.there (.there (.there (.here))))))) | exact .there (.there (.there (.there (.there (.there (.there (.there (.here)))))))) | exact .there (.there (.there (.there (.there (.there (.there (.there (.there (.here))))))))) | exact .there (.there (.there (.there (.there (.there (.there (.there (.there (.there (.here)))))))))) | exact .there (.there (.there (.there (.there (.there (.there (.there (.there (.there (.there (.here))))))))))) | exact .there (.there (.there (.there (.there (.there (.there (.there (.there (.there (.there (.there (.here)))))))))))))).isP (by omega)) ?_)
        refine WL.op0 (opW.storeOwn (sz := 1) (v := v24) (xs := mixU a k) (i := k) (off := 33) (y' := unW a[k]) hS (by first | exact .here | exact .there (.here) | exact .there (.there (.here)) | exact .there (.there (.there (.here))) | exact .there (.there (.there (.there (.here)))) | exact .there (.there (.there (.there (.there (.here))))) | exact .there (.there (.there (.there (.there (.there (.here)))))) | exact .there (.there (.there (.there (.there (.there (.there (.here))))))) | exact .there (.there (.there (.there (.there (.there (.there (.there (.here)))))))) | exact .there (.there (.there (.there (.there (.there (.there (.there (.there (.here))))))))) | exact .there (.there (.there (.there (.there (.there (.there (.there (.there (.there (.here)))))))))) | exact .there (.there (.there (.there (.there (.there (.there (.there (.there (.there (.there (.here))))))))))) | exact .there (.there (.there (.there (.there (.there (.there (.there (.there (.there (.there (.there (.here))))))))))))) (by omega) rfl rfl rfl (by decide) (Enc.one (α := Bool) _) (by rw [(List.getElem?_eq_some_iff.1 hmg).2]; exact Role.set_writes _ _) ?_)
        intro w hS; replace hS := hS _ (by first | exact .here | exact .there (.here) | exact .there (.there (.here)) | exact .there (.there (.there (.here))) | exact .there (.there (.there (.there (.here)))) | exact .there (.there (.there (.there (.there (.here))))) | exact .there (.there (.there (.there (.there (.there (.here)))))) | exact .there (.there (.there (.there (.there (.there (.there (.here))))))) | exact .there (.there (.there (.there (.there (.there (.there (.there (.here)))))))) | exact .there (.there (.there (.there (.there (.there (.there (.there (.there (.here))))))))) | exact .there (.there (.there (.there (.there (.there (.there (.there (.there (.there (.here)))))))))) | exact .there (.there (.there (.there (.there (.there (.there (.there (.there (.there (.there (.here))))))))))) | exact .there (.there (.there (.there (.there (.there (.there (.there (.there (.there (.there (.there (.here)))))))))))))
        rw [mixU_set hkl] at hS
        refine WL.nil ?_
        refine blockQ_n ?_
        refine thenQ_n (hK12 _ _ ?_)
        refine WC.region ?_
        refine WL.op rfl (opW.moveI rfl ?_)
        refine WL.op rfl (opW.add rfl rfl (wrap_i64 (by omega)) ?_)
        refine WL.op rfl (opW.assignI rfl ?_)
        refine WL.nil ?_
        refine thenQ_n ?_
        exact ⟨a.length - (k + 1), by omega, k + 1, ⟨rfl, rfl, rfl, rfl, rfl, congrArg (Value.int .i64) (by omega), trivial⟩, hS, by omega, rfl⟩
      ·
        have hr1 := hc1
        try simp only [decide_eq_true_eq, decide_eq_false_iff_not, Bool.and_eq_true, Bool.or_eq_true, Bool.and_eq_false_iff, Bool.or_eq_false_iff, Bool.not_eq_true', Bool.not_eq_false', Int.not_lt, Int.not_le] at hc1
        have hml := mixU_len a k
        have hkk : k = a.length := by omega
        subst hkk
        refine WC.exit ?_
        refine thenQ_e ?_
        refine thenQ_e ?_
        refine blockQ_hit ?_
        refine thenQ_n (hK8 _ _ ?_)
        refine WC.seq (fun K13 hK13 => ?_)
        refine WC.seq (fun K14 hK14 => ?_)
        refine WC.region ?_
        refine WL.op rfl (opW.assignI rfl ?_)
        refine WL.nil ?_
        refine thenQ_n (hK14 _ _ ?_)
        refine WC.block ?_
        refine WC.loop (fun q f w => ∃ k : Nat, Fits [(0, v1), (1, v2), (5, .bool (confB a b)), (6, v24), (7, v26), (9, .int .i64 (k : Int))] f ∧ St w0 [ownE v24 41 (mixU a a.length), ownE v26 41 (mixU b k)] w ∧ k ≤ b.length ∧ q = b.length - k) (b.length) ?_ ?_
        ·
          exact ⟨0, ⟨rfl, rfl, rfl, rfl, rfl, rfl, trivial⟩, (by rw [show mixU b 0 = b from rfl]; exact hS.sub (by repeat (first | with_reducible exact List.nil_sublist _ | with_reducible exact List.Sublist.refl _ | with_reducible refine List.Sublist.cons₂ _ ?_ | with_reducible refine List.Sublist.cons _ ?_))), Nat.zero_le _, rfl⟩
        ·
          rintro q f w ⟨k, hfit, hS, hk0, hm⟩
          refine WC.fits _ hfit (fun g => ?_)
          clear hfit
          refine WC.seq (fun K15 hK15 => ?_)
          refine WC.seq (fun K16 hK16 => ?_)
          refine WC.region ?_
          refine WL.op rfl (opW.moveI rfl ?_)
          refine WL.op rfl (opW.moveV (v := v26) rfl ?_)
          refine WL.op rfl (opW.lenV rfl ((hS.sl (xs := mixU b k) (by first | exact .here | exact .there (.here) | exact .there (.there (.here)) | exact .there (.there (.there (.here))) | exact .there (.there (.there (.there (.here)))) | exact .there (.there (.there (.there (.there (.here))))) | exact .there (.there (.there (.there (.there (.there (.here)))))) | exact .there (.there (.there (.there (.there (.there (.there (.here))))))) | exact .there (.there (.there (.there (.there (.there (.there (.there (.here)))))))) | exact .there (.there (.there (.there (.there (.there (.there (.there (.there (.here))))))))) | exact .there (.there (.there (.there (.there (.there (.there (.there (.there (.there (.here)))))))))) | exact .there (.there (.there (.there (.there (.there (.there (.there (.there (.there (.there (.here))))))))))) | exact .there (.there (.there (.there (.there (.there (.there (.there (.there (.there (.there (.there (.here))))))))))))))) ?_)
          refine WL.op rfl (opW.lss rfl rfl ?_)
          refine WL.nil ?_
          refine thenQ_n (hK16 _ _ ?_)
          refine WC.cond _ rfl (fun hc2 => ?_) (fun hc2 => ?_)
          ·
            have hr2 := hc2
            try simp only [decide_eq_true_eq, decide_eq_false_iff_not, Bool.and_eq_true, Bool.or_eq_true, Bool.and_eq_false_iff, Bool.or_eq_false_iff, Bool.not_eq_true', Bool.not_eq_false', Int.not_lt, Int.not_le] at hc2
            have hml := mixU_len b k
            have hkl : k < b.length := by omega
            have hmg := mixU_get hkl
            refine WC.skip ?_
            refine thenQ_n (hK15 _ _ ?_)
            refine WC.seq (fun K17 hK17 => ?_)
            refine WC.block ?_
            refine WC.region ?_
            refine WL.op rfl (opW.moveV (v := v26) rfl ?_)
            refine WL.op rfl (opW.moveI rfl ?_)
            refine WL.op rfl (opW.idxV rfl ((hS.sl (xs := mixU b k) (by first | exact .here | exact .there (.here) | exact .there (.there (.here)) | exact .there (.there (.there (.here))) | exact .there (.there (.there (.there (.here)))) | exact .there (.there (.there (.there (.there (.here))))) | exact .there (.there (.there (.there (.there (.there (.here)))))) | exact .there (.there (.there (.there (.there (.there (.there (.here))))))) | exact .there (.there (.there (.there (.there (.there (.there (.there (.here)))))))) | exact .there (.there (.there (.there (.there (.there (.there (.there (.there (.here))))))))) | exact .there (.there (.there (.there (.there (.there (.there (.there (.there (.there (.here)))))))))) | exact .there (.there (.there (.there (.there (.there (.there (.there (.there (.there (.there (.here))))))))))) | exact .there (.there (.there (.there (.there (.there (.there (.there (.there (.there (.there (.there (.here))))))))))))))) rfl (by omega) ?_)
            refine WL.op rfl (opW.fieldAddr rfl ((hS.sl (xs := mixU b k) (by first | exact .here | exact .there (.here) | exact .there (.there (.here)) | exact .there (.there (.there (.here))) | exact .there (.there (.there (.there (.here)))) | exact .there (.there (.there (.there (.there (.here))))) | exact .there (.there (.there (.there (.there (.there (.here)))))) | exact .there (.there (.there (.there (.there (.there (.there (.here))))))) | exact .there (.there (.there (.there (.there (.there (.there (.there (.here)))))))) | exact .there (.there (.there (.there (.there (.there (.there (.there (.there (.here))))))))) | exact .there (.there (.there (.there (.there (.there (.there (.there (.there (.there (.here)))))))))) | exact .there (.there (.there (.there (.there (.there (.there (.there (.there (.there (.there (.here))))))))))) | exact .there (.there (.there (.there (.there (.there (.there (.there (.there (.there (.there (.there (.here)))))))))))))).isP (by omega)) ?_)
            refine WL.op0 (opW.storeOwn (sz := 1) (v := v26) (xs := mixU b k) (i := k) (off := 33) (y' := unW b[k]) hS (by first | exact .here | exact .there (.here) | exact .there (.there (.here)) | exact .there (.there (.there (.here))) | exact .there (.there (.there (.there (.here)))) | exact .there (.there (.there (.there (.there (.here))))) | exact .there (.there (.there (.there (.there (.there (.here)))))) | exact .there (.there (.there (.there (.there (.there (.there (.here))))))) | exact .there (.there (.there (.there (.there (.there (.there (.there (.here)))))))) | exact .there (.there (.there (.there (.there (.there (.there (.there (.there (.here))))))))) | exact .there (.there (.there (.there (.there (.there (.there (.there (.there (.there (.here)))))))))) | exact .there (.there (.there (.there (.there (.there (.there (.there (.there (.there (.there (.here))))))))))) | exact .there (.there (.there (.there (.there (.there (.there (.there (.there (.there (.there (.there (.here))))))))))))) (by omega) rfl rfl rfl (by decide) (Enc.one (α := Bool) _) (by rw [(List.getElem?_eq_some_iff.1 hmg).2]; exact Role.set_writes _ _) ?_)
            intro w hS; replace hS := hS _ (by first | exact .here | exact .there (.here) | exact .there (.there (.here)) | exact .there (.there (.there (.here))) | exact .there (.there (.there (.there (.here)))) | exact .there (.there (.there (.there (.there (.here))))) | exact .there (.there (.there (.there (.there (.there (.here)))))) | exact .there (.there (.there (.there (.there (.there (.there (.here))))))) | exact .there (.there (.there (.there (.there (.there (.there (.there (.here)))))))) | exact .there (.there (.there (.there (.there (.there (.there (.there (.there (.here))))))))) | exact .there (.there (.there (.there (.there (.there (.there (.there (.there (.there (.here)))))))))) | exact .there (.there (.there (.there (.there (.there (.there (.there (.there (.there (.there (.here))))))))))) | exact .there (.there (.there (.there (.there (.there (.there (.there (.there (.there (.there (.there (.here)))))))))))))
            rw [mixU_set hkl] at hS
            refine WL.nil ?_
            refine blockQ_n ?_
            refine thenQ_n (hK17 _ _ ?_)
            refine WC.region ?_
            refine WL.op rfl (opW.moveI rfl ?_)
            refine WL.op rfl (opW.add rfl rfl (wrap_i64 (by omega)) ?_)
            refine WL.op rfl (opW.assignI rfl ?_)
            refine WL.nil ?_
            refine thenQ_n ?_
            exact ⟨b.length - (k + 1), by omega, k + 1, ⟨rfl, rfl, rfl, rfl, rfl, congrArg (Value.int .i64) (by omega), trivial⟩, hS, by omega, rfl⟩
          ·
            have hr2 := hc2
            try simp only [decide_eq_true_eq, decide_eq_false_iff_not, Bool.and_eq_true, Bool.or_eq_true, Bool.and_eq_false_iff, Bool.or_eq_false_iff, Bool.not_eq_true', Bool.not_eq_false', Int.not_lt, Int.not_le] at hc2
            have hml := mixU_len b k
            have hkk : k = b.length := by omega
            subst hkk
            refine WC.exit ?_
            refine thenQ_e ?_
            refine thenQ_e ?_
            refine blockQ_hit ?_
            refine thenQ_n (hK13 _ _ ?_)
            refine WC.seq (fun K18 hK18 => ?_)
            refine WC.region ?_
            refine WL.op rfl (opW.moveV (v := v24) rfl ?_)
            refine WL.op rfl (opW.moveV (v := v2) rfl ?_)
            refine WL.op rfl (opW.call (conflict_ok _ _ _ (mixU a a.length) b (hS.sl (xs := mixU a a.length) (by first | exact .here | exact .there (.here) | exact .there (.there (.here)) | exact .there (.there (.there (.here))) | exact .there (.there (.there (.there (.here)))) | exact .there (.there (.there (.there (.there (.here))))) | exact .there (.there (.there (.there (.there (.there (.here)))))) | exact .there (.there (.there (.there (.there (.there (.there (.here))))))) | exact .there (.there (.there (.there (.there (.there (.there (.there (.here)))))))) | exact .there (.there (.there (.there (.there (.there (.there (.there (.there (.here))))))))) | exact .there (.there (.there (.there (.there (.there (.there (.there (.there (.there (.here)))))))))) | exact .there (.there (.there (.there (.there (.there (.there (.there (.there (.there (.there (.here))))))))))) | exact .there (.there (.there (.there (.there (.there (.there (.there (.there (.there (.there (.there (.here)))))))))))))) (hb.bel hS.old)) rfl ?_)
            rintro _ w ⟨rfl, hw⟩; replace hS := hS.bel hw
            refine WL.op rfl (opW.moveB rfl ?_)
            refine WL.gd _ 50 _ rfl rfl rfl rfl (fun hg51 => opW.moveV (v := v1) rfl ⟨rfl, Bel.refl _⟩) (fun w hw => ?_)
            replace hS := hS.bel hw
            refine WL.gd _ 50 _ rfl rfl rfl rfl (fun hg52 => opW.moveV (v := v26) rfl ⟨rfl, Bel.refl _⟩) (fun w hw => ?_)
            replace hS := hS.bel hw
            refine WL.gd _ 50 (.bool (confB a (mixU b b.length))) rfl rfl rfl rfl (fun hg53 => ?_) (fun w hw => ?_)
            · refine opW.call (conflict_ok _ _ _ a (mixU b b.length) (ha.bel hS.old) (hS.sl (xs := mixU b b.length) (by first | exact .here | exact .there (.here) | exact .there (.there (.here)) | exact .there (.there (.there (.here))) | exact .there (.there (.there (.there (.here)))) | exact .there (.there (.there (.there (.there (.here))))) | exact .there (.there (.there (.there (.there (.there (.here)))))) | exact .there (.there (.there (.there (.there (.there (.there (.here))))))) | exact .there (.there (.there (.there (.there (.there (.there (.there (.here)))))))) | exact .there (.there (.there (.there (.there (.there (.there (.there (.there (.here))))))))) | exact .there (.there (.there (.there (.there (.there (.there (.there (.there (.there (.here)))))))))) | exact .there (.there (.there (.there (.there (.there (.there (.there (.there (.there (.there (.here))))))))))) | exact .there (.there (.there (.there (.there (.there (.there (.there (.there (.there (.there (.there (.here))))))))))))))) (args2 (by first | exact gv_of rfl hg53 | rfl) (by first | exact gv_of rfl hg53 | rfl)) ?_
              rintro _ w ⟨rfl, hw⟩; replace hS := hS.bel hw
              exact ⟨rfl, ‹_›⟩
            replace hS := hS.bel hw
            refine WL.op rfl (opW.pickOr rfl rfl (by first | rfl) ?_)
            refine WL.op rfl (opW.assignB rfl ?_)
            refine WL.nil ?_
            refine thenQ_n (hK18 _ _ ?_)
            refine WC.seq (fun K19 hK19 => ?_)
            refine WC.region ?_
            refine WL.op rfl (opW.moveV (v := v2) rfl ?_)
            refine WL.op rfl (opW.moveV (v := v1) rfl ?_)
            refine WL.op rfl (opW.call (conflict_ok _ _ _ b a (hb.bel hS.old) (ha.bel hS.old)) rfl ?_)
            rintro _ w ⟨rfl, hw⟩; replace hS := hS.bel hw
            refine WL.op rfl (opW.moveB rfl ?_)
            refine WL.op rfl (opW.boolT (by rw [conf_comm]; simp) (opW.eqlB rfl rfl ⟨rfl, rfl⟩) ?_)
            refine WL.op rfl (opW.moveB rfl ?_)
            refine WL.gT 60 rfl rfl rfl (WL.op rfl (opW.moveB rfl ?_))
            refine WL.gT 60 rfl rfl rfl (WL.op rfl (opW.moveB rfl ?_))
            refine WL.gT 60 rfl rfl rfl (WL.op rfl (opW.boolT (by rw [mixU_all, mixU_all, conf_half]; simp) (opW.eqlB rfl rfl ⟨rfl, rfl⟩) ?_))
            refine WL.op rfl (opW.pickT rfl rfl ?_)
            refine WL.op rfl (opW.moveB rfl ?_)
            refine WL.gT 65 rfl rfl rfl (WL.op rfl (opW.moveV (v := v24) rfl ?_))
            refine WL.gT 65 rfl rfl rfl (WL.op rfl (opW.moveV (v := v26) rfl ?_))
            refine WL.gT 65 rfl rfl rfl (WL.op rfl (opW.call (conflict_ok _ _ _ (mixU a a.length) (mixU b b.length) (hS.sl (xs := mixU a a.length) (by first | exact .here | exact .there (.here) | exact .there (.there (.here)) | exact .there (.there (.there (.here))) | exact .there (.there (.there (.there (.here)))) | exact .there (.there (.there (.there (.there (.here))))) | exact .there (.there (.there (.there (.there (.there (.here)))))) | exact .there (.there (.there (.there (.there (.there (.there (.here))))))) | exact .there (.there (.there (.there (.there (.there (.there (.there (.here)))))))) | exact .there (.there (.there (.there (.there (.there (.there (.there (.there (.here))))))))) | exact .there (.there (.there (.there (.there (.there (.there (.there (.there (.there (.here)))))))))) | exact .there (.there (.there (.there (.there (.there (.there (.there (.there (.there (.there (.here))))))))))) | exact .there (.there (.there (.there (.there (.there (.there (.there (.there (.there (.there (.there (.here)))))))))))))) (hS.sl (xs := mixU b b.length) (by first | exact .here | exact .there (.here) | exact .there (.there (.here)) | exact .there (.there (.there (.here))) | exact .there (.there (.there (.there (.here)))) | exact .there (.there (.there (.there (.there (.here))))) | exact .there (.there (.there (.there (.there (.there (.here)))))) | exact .there (.there (.there (.there (.there (.there (.there (.here))))))) | exact .there (.there (.there (.there (.there (.there (.there (.there (.here)))))))) | exact .there (.there (.there (.there (.there (.there (.there (.there (.there (.here))))))))) | exact .there (.there (.there (.there (.there (.there (.there (.there (.there (.there (.here)))))))))) | exact .there (.there (.there (.there (.there (.there (.there (.there (.there (.there (.there (.here))))))))))) | exact .there (.there (.there (.there (.there (.there (.there (.there (.there (.there (.there (.there (.here))))))))))))))) rfl ?_))
            rintro _ w ⟨rfl, hw⟩; replace hS := hS.bel hw
            rw [show confB (mixU a a.length) (mixU b b.length) = false from by rw [mixU_all, mixU_all]; exact conf_none a b]
            refine WL.gT 65 rfl rfl rfl (WL.op rfl (opW.not rfl ?_))
            refine WL.op rfl (opW.pickT rfl rfl ?_)
            refine WL.op rfl (opW.moveB rfl ?_)
            refine WL.gT 71 rfl rfl rfl (WL.op rfl (opW.moveV (v := v1) rfl ?_))
            refine WL.gT 71 rfl rfl rfl (WL.op rfl (opW.moveV (v := v1) rfl ?_))
            refine WL.gT 71 rfl rfl rfl (WL.op rfl (opW.call (conflict_ok _ _ _ a a (ha.bel hS.old) (ha.bel hS.old)) rfl ?_))
            rintro _ w ⟨rfl, hw⟩; replace hS := hS.bel hw
            refine WL.gT 71 rfl rfl rfl (WL.op rfl (opW.moveV (v := v1) rfl ?_))
            refine WL.gT 71 rfl rfl rfl (WL.op rfl (opW.call (written_ok _ _ a (ha.bel hS.old) (by omega)) rfl ?_))
            rintro v76 w ⟨hv76, hw⟩
            replace hS := hS.newOwn hw hv76.1 hv76.2
            refine WL.gT 71 rfl rfl rfl (WL.op rfl (opW.lenV rfl (hS.sl (xs := wrL a) (by first | exact .here | exact .there (.here) | exact .there (.there (.here)) | exact .there (.there (.there (.here))) | exact .there (.there (.there (.there (.here)))) | exact .there (.there (.there (.there (.there (.here))))) | exact .there (.there (.there (.there (.there (.there (.here)))))) | exact .there (.there (.there (.there (.there (.there (.there (.here))))))) | exact .there (.there (.there (.there (.there (.there (.there (.there (.here)))))))) | exact .there (.there (.there (.there (.there (.there (.there (.there (.there (.here))))))))) | exact .there (.there (.there (.there (.there (.there (.there (.there (.there (.there (.here)))))))))) | exact .there (.there (.there (.there (.there (.there (.there (.there (.there (.there (.there (.here))))))))))) | exact .there (.there (.there (.there (.there (.there (.there (.there (.there (.there (.there (.there (.here)))))))))))))) ?_))
            refine WL.gT 71 rfl rfl rfl (WL.op rfl (opW.gtr rfl rfl ?_))
            refine WL.gT 71 rfl rfl rfl (WL.op rfl (opW.boolT (by rw [conf_self]; simp) (opW.eqlB rfl rfl ⟨rfl, rfl⟩) ?_))
            refine WL.op rfl (opW.pickT rfl rfl ?_)
            refine WL.op rfl (opW.moveB rfl ?_)
            refine WL.gT 81 rfl rfl rfl (WL.op rfl (opW.moveV (v := v1) rfl ?_))
            refine WL.gT 81 rfl rfl rfl (WL.op rfl (opW.call (conflict_ok _ _ _ a [] (ha.bel hS.old) (SlR.nil _)) rfl ?_))
            rintro _ w ⟨rfl, hw⟩; replace hS := hS.bel hw
            rw [show confB a [] = false from conf_nil a]
            refine WL.gT 81 rfl rfl rfl (WL.op rfl (opW.not rfl ?_))
            refine WL.op rfl (opW.pickT rfl rfl ?_)
            refine WL.op rfl (opW.moveB rfl ?_)
            refine WL.gT 86 rfl rfl rfl (WL.op rfl (opW.call (lives7 _) rfl ?_))
            rintro _ w ⟨rfl, hw⟩; replace hS := hS.bel hw
            refine WL.op rfl (opW.pickT rfl rfl ?_)
            refine WL.op rfl (opW.assignB rfl ?_)
            refine WL.nil ?_
            refine thenQ_n (hK19 _ _ ?_)
            refine WC.ret ?_
            refine bodyQ_ret (.tmpB rfl .nil) ?_
            exact ⟨rfl, hS.old⟩

end Go.Fer
