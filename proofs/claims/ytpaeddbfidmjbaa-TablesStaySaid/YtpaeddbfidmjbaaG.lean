/- TablesStay -/
import Derived.Test.YtpaeddbfidmjbaaD
set_option linter.all false
namespace Go.Fer
open Go Go.Proofs Go.RowKit

theorem putC_may {d : TbD} {t : Key} {l k : List Key} {e : Int} (hf : (d.find t = some l ∧ e = 0) ∨ (d.find t = none ∧ e = 11 ∧ l = [])) (hm : 1 ≤ k.length ∧ k.length ≤ 256) : decide (putC d t k = 12) = decide (e = 0) ∧ (e = 0 → putC d t k = 12) ∧ (e ≠ 0 → putC d t k = 0) := by
  unfold putC
  rw [if_pos hm]
  rcases hf with ⟨h, rfl⟩ | ⟨h, rfl, _⟩
  · have : (aget t d.kvs).isSome = true := by
      unfold TbD.find at h
      cases h2 : aget t d.kvs with
      | none => rw [h2] at h; cases h
      | some x => rfl
    rw [if_pos this]; simp
  · rw [find_none] at h
    rw [h]; simp
theorem stay_ab {d d2 : TbD} {t : Key} {k l9 l12 : List Key} {e10 e13 : Int} (h1 : (d.find t = some l9 ∧ e10 = 0) ∨ (d.find t = none ∧ e10 = 11 ∧ l9 = [])) (h2 : (d2.find t = some l12 ∧ e13 = 0) ∨ (d2.find t = none ∧ e13 = 11 ∧ l12 = []))
    (hp : putC d t k = 0 → ∀ x, d2.find x = if x = t then some k else d.find x) (hs : putC d t k ≠ 0 → d2 = d) :
    (e10 = 0 → e13 = 0 ∧ l9 = l12) ∧ (e10 ≠ 0 → (1 ≤ k.length ∧ k.length ≤ 256) → e13 = 0 ∧ l12 = k) := by
  refine ⟨fun he => ?_, fun he hm => ?_⟩
  · have hne : putC d t k ≠ 0 := by
      by_cases hm : 1 ≤ k.length ∧ k.length ≤ 256
      · rw [(putC_may h1 hm).2.1 he]; decide
      · unfold putC; rw [if_neg hm]; decide
    rw [hs hne] at h2
    rcases h1 with ⟨h1, _⟩ | ⟨_, h1, _⟩
    · rcases h2 with ⟨h2, h3⟩ | ⟨h2, _⟩
      · rw [h1] at h2; cases h2; exact ⟨h3, rfl⟩
      · rw [h1] at h2; cases h2
    · omega
  · have hz := (putC_may h1 hm).2.2 he
    have h3 := hp hz t
    rw [if_pos rfl] at h3
    rcases h2 with ⟨h2, h4⟩ | ⟨h2, _⟩
    · rw [h3] at h2; cases h2; exact ⟨h4, rfl⟩
    · rw [h3] at h2; cases h2
theorem resF_mono {f g : Key → Option (List Key)} (h : ∀ k l, f k = some l → g k = some l) : ∀ (ls : List LkM) (a b : List Key), resF f ls = .ok a b → resF g ls = .ok a b
  | [], a, b, h' => h'
  | x :: r, a, b, h' => by
    simp only [resF] at h' ⊢
    cases h1 : f x.table with
    | none => simp [h1] at h'
    | some l =>
      rw [h _ _ h1]
      rw [h1] at h'
      simp only at h' ⊢
      cases h2 : pick l x.ws with
      | none => simp [h2] at h'
      | some y =>
        cases h3 : pick l x.rs with
        | none => simp [h2, h3] at h'
        | some z =>
          simp only [h2, h3] at h' ⊢
          cases h4 : resF f r with
          | err e => simp [h4] at h'
          | ok c e =>
            rw [resF_mono h r c e h4]
            rw [h4] at h'
            exact h'
theorem put_ext {d d2 : TbD} {t : Key} {k : List Key} (hp : putC d t k = 0 → ∀ x, d2.find x = if x = t then some k else d.find x) (hs : putC d t k ≠ 0 → d2 = d) : ∀ x l, d.find x = some l → d2.find x = some l := by
  intro x l h
  by_cases hz : putC d t k = 0
  · rw [hp hz x]
    by_cases e : x = t
    · subst e
      unfold putC at hz
      have hs : (aget x d.kvs).isSome = true := by
        unfold TbD.find at h
        cases h2 : aget x d.kvs with
        | none => rw [h2] at h; cases h
        | some y => rfl
      rw [if_pos hs] at hz
      split at hz <;> cases hz
    · rw [if_neg e]; exact h
  · rw [hs hz]; exact h

theorem stay_law (w0 : World) (v : Value) (xs : List Act) (ac : Nat → AcM) (x : Act) (m : AcM) (hx : SlR w0 v xs) (hac : ∀ i (hi : i < xs.length), AcIs w0 (xs[i]'hi) (ac i)) (hmx : AcIs w0 x m) : Ret Try.prog 4 #[v, .agg (Enc.enc x)] w0 (fun r w' => r = .bool true ∧ Bel w0 w') := by
  refine Ret.enter (args := [v, .agg (Enc.enc x)]) Try.func4 rfl Try.ntmps4 Try.results4 rfl ?_
  have hS := St.start w0
  refine WC.seq (fun K1 hK1 => ?_)
  refine WC.region ?_
  refine WL.op rfl (opW.boxA hS rfl ?_)
  intro b3 w _ hS
  refine WL.op rfl (opW.assignB rfl ?_)
  refine WL.nil ?_
  refine thenQ_n (hK1 _ _ ?_)
  refine WC.seq (fun K2 hK2 => ?_)
  refine WC.mid (fun f w => ∃ bb : Bool, Fits [(0, v), (3, .pointer (some ⟨b3, 0, none⟩)), (24, .bool bb)] f ∧ St w0 [blkE b3 (Enc.enc x) 38] w ∧ (bb = false → actB m = false)) ?_ ?_
  ·
    refine WC.region ?_
    refine WL.op rfl (opW.moveV (v := v) rfl ?_)
    refine WL.op rfl (opW.call (great_ok _ v xs ac (hx.bel hS.old) (fun i hi => (hac i hi).bel hS.old)) rfl ?_)
    rintro _ w ⟨rfl, hw⟩; replace hS := hS.bel hw
    refine WL.op rfl (opW.moveB rfl ?_)
    cases hcs20 : (greatB xs.length ac) with
    | true =>
      refine WL.gF 20 rfl rfl rfl rfl ?_
      refine WL.gF 20 rfl rfl rfl rfl ?_
      refine WL.gF 20 rfl rfl rfl rfl ?_
      refine WL.op rfl (opW.pickT rfl rfl ?_)
      refine WL.nil ?_
      refine thenQ_n ?_
      first | exact ⟨_, ⟨rfl, rfl, rfl, trivial⟩, hS.sub (by repeat (first | with_reducible exact List.nil_sublist _ | with_reducible exact List.Sublist.refl _ | with_reducible refine List.Sublist.cons₂ _ ?_ | with_reducible refine List.Sublist.cons _ ?_)), fun h => greatB_one h⟩ | exact ⟨true, ⟨rfl, rfl, rfl, trivial⟩, hS.sub (by repeat (first | with_reducible exact List.nil_sublist _ | with_reducible exact List.Sublist.refl _ | with_reducible refine List.Sublist.cons₂ _ ?_ | with_reducible refine List.Sublist.cons _ ?_)), fun h => by cases h⟩
    | false =>
      refine WL.gT 20 rfl rfl rfl (WL.op rfl (opW.loadV rfl (hS.ldA (cs := Enc.enc x) (by first | exact .here | exact .there (.here) | exact .there (.there (.here)) | exact .there (.there (.there (.here))) | exact .there (.there (.there (.there (.here)))) | exact .there (.there (.there (.there (.there (.here))))) | exact .there (.there (.there (.there (.there (.there (.here)))))) | exact .there (.there (.there (.there (.there (.there (.there (.here))))))) | exact .there (.there (.there (.there (.there (.there (.there (.there (.here)))))))) | exact .there (.there (.there (.there (.there (.there (.there (.there (.there (.here))))))))) | exact .there (.there (.there (.there (.there (.there (.there (.there (.there (.there (.here)))))))))) | exact .there (.there (.there (.there (.there (.there (.there (.there (.there (.there (.there (.here))))))))))) | exact .there (.there (.there (.there (.there (.there (.there (.there (.there (.there (.there (.there (.here))))))))))))) (Enc.size_eq _)) ?_))
      refine WL.gT 20 rfl rfl rfl (WL.op rfl (opW.buildSl hS (([x] : List Act)) [.agg (Enc.enc x)] rfl rfl rfl rfl (by decide) ?_))
      intro b22 w hw hS
      refine WL.gT 20 rfl rfl rfl (WL.op rfl (opW.call (great_ok _ _ [x] (fun _ => m) (hS.sl (xs := ([x] : List Act)) (by first | exact .here | exact .there (.here) | exact .there (.there (.here)) | exact .there (.there (.there (.here))) | exact .there (.there (.there (.there (.here)))) | exact .there (.there (.there (.there (.there (.here))))) | exact .there (.there (.there (.there (.there (.there (.here)))))) | exact .there (.there (.there (.there (.there (.there (.there (.here))))))) | exact .there (.there (.there (.there (.there (.there (.there (.there (.here)))))))) | exact .there (.there (.there (.there (.there (.there (.there (.there (.there (.here))))))))) | exact .there (.there (.there (.there (.there (.there (.there (.there (.there (.there (.here)))))))))) | exact .there (.there (.there (.there (.there (.there (.there (.there (.there (.there (.there (.here))))))))))) | exact .there (.there (.there (.there (.there (.there (.there (.there (.there (.there (.there (.there (.here)))))))))))))) (fun i hi => by simp at hi; subst hi; exact hmx.bel hS.old)) rfl ?_))
      rintro _ w ⟨rfl, hw⟩; replace hS := hS.bel hw
      refine WL.op rfl (opW.pickT rfl rfl ?_)
      refine WL.nil ?_
      refine thenQ_n ?_
      first | exact ⟨_, ⟨rfl, rfl, rfl, trivial⟩, hS.sub (by repeat (first | with_reducible exact List.nil_sublist _ | with_reducible exact List.Sublist.refl _ | with_reducible refine List.Sublist.cons₂ _ ?_ | with_reducible refine List.Sublist.cons _ ?_)), fun h => greatB_one h⟩ | exact ⟨true, ⟨rfl, rfl, rfl, trivial⟩, hS.sub (by repeat (first | with_reducible exact List.nil_sublist _ | with_reducible exact List.Sublist.refl _ | with_reducible refine List.Sublist.cons₂ _ ?_ | with_reducible refine List.Sublist.cons _ ?_)), fun h => by cases h⟩
  ·
    rintro f w ⟨bb, hfit, hS, hbb⟩
    refine WC.fits _ hfit (fun g => ?_)
    clear hfit
    refine WC.cond _ rfl (fun hc0 => ?_) (fun hc0 => ?_)
    ·
      have hr0 := hc0
      try simp only [decide_eq_true_eq, decide_eq_false_iff_not, Bool.and_eq_true, Bool.or_eq_true, Bool.and_eq_false_iff, Bool.or_eq_false_iff, Bool.not_eq_true', Bool.not_eq_false', Int.not_lt, Int.not_le] at hc0
      refine WC.seq (fun K3 hK3 => ?_)
      refine WC.region ?_
      refine WL.op rfl (opW.call (lives06 _) rfl ?_)
      rintro _ w ⟨rfl, hw⟩; replace hS := hS.bel hw
      refine WL.op rfl (opW.assignB rfl ?_)
      refine WL.nil ?_
      refine thenQ_n (hK3 _ _ ?_)
      refine WC.ret ?_
      refine thenQ_r ?_
      refine bodyQ_ret (.tmpB rfl .nil) ?_
      exact ⟨rfl, hS.old⟩
    ·
      have hr0 := hc0
      try simp only [decide_eq_true_eq, decide_eq_false_iff_not, Bool.and_eq_true, Bool.or_eq_true, Bool.and_eq_false_iff, Bool.or_eq_false_iff, Bool.not_eq_true', Bool.not_eq_false', Int.not_lt, Int.not_le] at hc0
      have hact := hbb hr0
      unfold actB at hact
      rw [Bool.or_eq_false_iff] at hact
      have hln := longB_no hact.2
      obtain ⟨hmk, hml, hmm, hsm⟩ := hmx
      refine WC.skip ?_
      refine thenQ_n (hK2 _ _ ?_)
      refine WC.seq (fun K4 hK4 => ?_)
      refine WC.region ?_
      refine WL.op rfl (opW.moveV (v := v) rfl ?_)
      refine WL.op rfl (opW.call (made_ok _ v xs ac (hx.bel hS.old) (fun i hi => (hac i hi).bel hS.old)) rfl ?_)
      rintro _ w ⟨p, d, rfl, hok, hn0, hw⟩
      replace hS := hS.newE hw hn0
      refine WL.op rfl (opW.assignV (v := .pointer (some ⟨p, 0, none⟩)) rfl ?_)
      refine WL.nil ?_
      refine thenQ_n (hK4 _ _ ?_)
      refine WC.seq (fun K5 hK5 => ?_)
      refine WC.region ?_
      refine WL.op rfl (opW.moveV (v := .pointer (some ⟨p, 0, none⟩)) rfl ?_)
      refine WL.op rfl (opW.fieldAddrB rfl ?_)
      refine WL.op rfl (opW.loadV rfl (hS.ld1 (by first | exact .here | exact .there (.here) | exact .there (.there (.here)) | exact .there (.there (.there (.here))) | exact .there (.there (.there (.there (.here)))) | exact .there (.there (.there (.there (.there (.here))))) | exact .there (.there (.there (.there (.there (.there (.here)))))) | exact .there (.there (.there (.there (.there (.there (.there (.here))))))) | exact .there (.there (.there (.there (.there (.there (.there (.there (.here)))))))) | exact .there (.there (.there (.there (.there (.there (.there (.there (.there (.here))))))))) | exact .there (.there (.there (.there (.there (.there (.there (.there (.there (.there (.here)))))))))) | exact .there (.there (.there (.there (.there (.there (.there (.there (.there (.there (.there (.here))))))))))) | exact .there (.there (.there (.there (.there (.there (.there (.there (.there (.there (.there (.there (.here))))))))))))) (Act.at_l _)) ?_)
      refine WL.op rfl (opW.call (resolve_ok _ p d x.l.v m.lk m.ms (hS.tbAt (by first | exact .here | exact .there (.here) | exact .there (.there (.here)) | exact .there (.there (.there (.here))) | exact .there (.there (.there (.there (.here)))) | exact .there (.there (.there (.there (.there (.here))))) | exact .there (.there (.there (.there (.there (.there (.here)))))) | exact .there (.there (.there (.there (.there (.there (.there (.here))))))) | exact .there (.there (.there (.there (.there (.there (.there (.there (.here)))))))) | exact .there (.there (.there (.there (.there (.there (.there (.there (.there (.here))))))))) | exact .there (.there (.there (.there (.there (.there (.there (.there (.there (.there (.here)))))))))) | exact .there (.there (.there (.there (.there (.there (.there (.there (.there (.there (.there (.here))))))))))) | exact .there (.there (.there (.there (.there (.there (.there (.there (.there (.there (.there (.there (.here)))))))))))))) (hml.bel hS.old) (hmm.bel hS.old) (by omega)) rfl ?_)
      rintro _ w ⟨v6, v7, e8, ra, rb, rfl, hN1, hr1x⟩
      replace hS := hS.merge hN1
      simp only [List.cons_append, List.nil_append] at hS
      refine WL.op rfl (opW.moveV (v := .tuple #[v6, v7, .int .i64 e8]) rfl ?_)
      refine WL.op rfl (opW.extract rfl rfl ?_)
      refine WL.op rfl (opW.extract rfl rfl ?_)
      refine WL.op rfl (opW.extract rfl rfl ?_)
      refine WL.op rfl (opW.assignV (v := v6) rfl ?_)
      refine WL.op rfl (opW.assignV (v := v7) rfl ?_)
      refine WL.op rfl (opW.assignI rfl ?_)
      refine WL.nil ?_
      refine thenQ_n (hK5 _ _ ?_)
      refine WC.seq (fun K6 hK6 => ?_)
      refine WC.region ?_
      refine WL.op rfl (opW.moveV (v := .pointer (some ⟨p, 0, none⟩)) rfl ?_)
      refine WL.op rfl (opW.fieldAddrB rfl ?_)
      refine WL.op rfl (opW.loadV rfl (hS.ldF (cs := Enc.enc x) (o := 1) (by first | exact .here | exact .there (.here) | exact .there (.there (.here)) | exact .there (.there (.there (.here))) | exact .there (.there (.there (.there (.here)))) | exact .there (.there (.there (.there (.there (.here))))) | exact .there (.there (.there (.there (.there (.there (.here)))))) | exact .there (.there (.there (.there (.there (.there (.there (.here))))))) | exact .there (.there (.there (.there (.there (.there (.there (.there (.here)))))))) | exact .there (.there (.there (.there (.there (.there (.there (.there (.there (.here))))))))) | exact .there (.there (.there (.there (.there (.there (.there (.there (.there (.there (.here)))))))))) | exact .there (.there (.there (.there (.there (.there (.there (.there (.there (.there (.there (.here))))))))))) | exact .there (.there (.there (.there (.there (.there (.there (.there (.there (.there (.there (.there (.here))))))))))))) (Act.ex_table _) (by rw [Enc.size_eq]; decide)) ?_)
      refine WL.op rfl (opW.call (find_ok _ p d x.table (hS.tbAt (by first | exact .here | exact .there (.here) | exact .there (.there (.here)) | exact .there (.there (.there (.here))) | exact .there (.there (.there (.there (.here)))) | exact .there (.there (.there (.there (.there (.here))))) | exact .there (.there (.there (.there (.there (.there (.here)))))) | exact .there (.there (.there (.there (.there (.there (.there (.here))))))) | exact .there (.there (.there (.there (.there (.there (.there (.there (.here)))))))) | exact .there (.there (.there (.there (.there (.there (.there (.there (.there (.here))))))))) | exact .there (.there (.there (.there (.there (.there (.there (.there (.there (.there (.here)))))))))) | exact .there (.there (.there (.there (.there (.there (.there (.there (.there (.there (.there (.here))))))))))) | exact .there (.there (.there (.there (.there (.there (.there (.there (.there (.there (.there (.there (.here)))))))))))))) hok) rfl ?_)
      rintro _ w ⟨v9, e10, l9, rfl, hf1, hn1, hw⟩
      replace hS := hS.newOwn hw hn1.1 hn1.2
      refine WL.op rfl (opW.moveV (v := .tuple #[v9, .int .i64 e10]) rfl ?_)
      refine WL.op rfl (opW.extract rfl rfl ?_)
      refine WL.op rfl (opW.extract rfl rfl ?_)
      refine WL.op rfl (opW.assignV (v := v9) rfl ?_)
      refine WL.op rfl (opW.assignI rfl ?_)
      refine WL.nil ?_
      refine thenQ_n (hK6 _ _ ?_)
      refine WC.seq (fun K7 hK7 => ?_)
      refine WC.region ?_
      refine WL.op rfl (opW.moveV (v := .pointer (some ⟨p, 0, none⟩)) rfl ?_)
      refine WL.op rfl (opW.fieldAddrB rfl ?_)
      refine WL.op rfl (opW.loadV rfl (hS.ldF (cs := Enc.enc x) (o := 1) (by first | exact .here | exact .there (.here) | exact .there (.there (.here)) | exact .there (.there (.there (.here))) | exact .there (.there (.there (.there (.here)))) | exact .there (.there (.there (.there (.there (.here))))) | exact .there (.there (.there (.there (.there (.there (.here)))))) | exact .there (.there (.there (.there (.there (.there (.there (.here))))))) | exact .there (.there (.there (.there (.there (.there (.there (.there (.here)))))))) | exact .there (.there (.there (.there (.there (.there (.there (.there (.there (.here))))))))) | exact .there (.there (.there (.there (.there (.there (.there (.there (.there (.there (.here)))))))))) | exact .there (.there (.there (.there (.there (.there (.there (.there (.there (.there (.there (.here))))))))))) | exact .there (.there (.there (.there (.there (.there (.there (.there (.there (.there (.there (.there (.here))))))))))))) (Act.ex_table _) (by rw [Enc.size_eq]; decide)) ?_)
      refine WL.op rfl (opW.fieldAddrB rfl ?_)
      refine WL.op rfl (opW.loadV rfl (hS.ld1 (by first | exact .here | exact .there (.here) | exact .there (.there (.here)) | exact .there (.there (.there (.here))) | exact .there (.there (.there (.there (.here)))) | exact .there (.there (.there (.there (.there (.here))))) | exact .there (.there (.there (.there (.there (.there (.here)))))) | exact .there (.there (.there (.there (.there (.there (.there (.here))))))) | exact .there (.there (.there (.there (.there (.there (.there (.there (.here)))))))) | exact .there (.there (.there (.there (.there (.there (.there (.there (.there (.here))))))))) | exact .there (.there (.there (.there (.there (.there (.there (.there (.there (.there (.here)))))))))) | exact .there (.there (.there (.there (.there (.there (.there (.there (.there (.there (.there (.here))))))))))) | exact .there (.there (.there (.there (.there (.there (.there (.there (.there (.there (.there (.there (.here))))))))))))) (Act.at_keys _)) ?_)
      refine WL.op rfl (opW.call (put_ok _ _ _ p d x.table x.keys.v m.keys (hS.pick (by first | exact .here | exact .there (.here) | exact .there (.there (.here)) | exact .there (.there (.there (.here))) | exact .there (.there (.there (.there (.here)))) | exact .there (.there (.there (.there (.there (.here))))) | exact .there (.there (.there (.there (.there (.there (.here)))))) | exact .there (.there (.there (.there (.there (.there (.there (.here))))))) | exact .there (.there (.there (.there (.there (.there (.there (.there (.here)))))))) | exact .there (.there (.there (.there (.there (.there (.there (.there (.there (.here))))))))) | exact .there (.there (.there (.there (.there (.there (.there (.there (.there (.there (.here)))))))))) | exact .there (.there (.there (.there (.there (.there (.there (.there (.there (.there (.there (.here))))))))))) | exact .there (.there (.there (.there (.there (.there (.there (.there (.there (.there (.there (.there (.here)))))))))))))) hok (fun w h => hmk.bel h.old)) rfl ?_)
      rintro _ w ⟨d2, rfl, hp, hsame, hok2, hS⟩
      refine WL.op rfl (opW.assignI rfl ?_)
      refine WL.nil ?_
      refine thenQ_n (hK7 _ _ ?_)
      refine WC.seq (fun K8 hK8 => ?_)
      refine WC.region ?_
      refine WL.op rfl (opW.moveV (v := .pointer (some ⟨p, 0, none⟩)) rfl ?_)
      refine WL.op rfl (opW.fieldAddrB rfl ?_)
      refine WL.op rfl (opW.loadV rfl (hS.ldF (cs := Enc.enc x) (o := 1) (by first | exact .here | exact .there (.here) | exact .there (.there (.here)) | exact .there (.there (.there (.here))) | exact .there (.there (.there (.there (.here)))) | exact .there (.there (.there (.there (.there (.here))))) | exact .there (.there (.there (.there (.there (.there (.here)))))) | exact .there (.there (.there (.there (.there (.there (.there (.here))))))) | exact .there (.there (.there (.there (.there (.there (.there (.there (.here)))))))) | exact .there (.there (.there (.there (.there (.there (.there (.there (.there (.here))))))))) | exact .there (.there (.there (.there (.there (.there (.there (.there (.there (.there (.here)))))))))) | exact .there (.there (.there (.there (.there (.there (.there (.there (.there (.there (.there (.here))))))))))) | exact .there (.there (.there (.there (.there (.there (.there (.there (.there (.there (.there (.there (.here))))))))))))) (Act.ex_table _) (by rw [Enc.size_eq]; decide)) ?_)
      refine WL.op rfl (opW.call (find_ok _ p d2 x.table (hS.tbAt (by first | exact .here | exact .there (.here) | exact .there (.there (.here)) | exact .there (.there (.there (.here))) | exact .there (.there (.there (.there (.here)))) | exact .there (.there (.there (.there (.there (.here))))) | exact .there (.there (.there (.there (.there (.there (.here)))))) | exact .there (.there (.there (.there (.there (.there (.there (.here))))))) | exact .there (.there (.there (.there (.there (.there (.there (.there (.here)))))))) | exact .there (.there (.there (.there (.there (.there (.there (.there (.there (.here))))))))) | exact .there (.there (.there (.there (.there (.there (.there (.there (.there (.there (.here)))))))))) | exact .there (.there (.there (.there (.there (.there (.there (.there (.there (.there (.there (.here))))))))))) | exact .there (.there (.there (.there (.there (.there (.there (.there (.there (.there (.there (.there (.here)))))))))))))) hok2) rfl ?_)
      rintro _ w ⟨v12, e13, l12, rfl, hf2, hn2, hw⟩
      replace hS := hS.newOwn hw hn2.1 hn2.2
      obtain ⟨hA, hB⟩ := stay_ab hf1 hf2 hp hsame
      refine WL.op rfl (opW.moveV (v := .tuple #[v12, .int .i64 e13]) rfl ?_)
      refine WL.op rfl (opW.extract rfl rfl ?_)
      refine WL.op rfl (opW.extract rfl rfl ?_)
      refine WL.op rfl (opW.assignV (v := v12) rfl ?_)
      refine WL.op rfl (opW.assignI rfl ?_)
      refine WL.nil ?_
      refine thenQ_n (hK8 _ _ ?_)
      refine WC.seq (fun K9 hK9 => ?_)
      refine WC.region ?_
      refine WL.op rfl (opW.fieldAddrB rfl ?_)
      refine WL.op rfl (opW.loadV rfl (hS.ld1 (by first | exact .here | exact .there (.here) | exact .there (.there (.here)) | exact .there (.there (.there (.here))) | exact .there (.there (.there (.there (.here)))) | exact .there (.there (.there (.there (.there (.here))))) | exact .there (.there (.there (.there (.there (.there (.here)))))) | exact .there (.there (.there (.there (.there (.there (.there (.here))))))) | exact .there (.there (.there (.there (.there (.there (.there (.there (.here)))))))) | exact .there (.there (.there (.there (.there (.there (.there (.there (.there (.here))))))))) | exact .there (.there (.there (.there (.there (.there (.there (.there (.there (.there (.here)))))))))) | exact .there (.there (.there (.there (.there (.there (.there (.there (.there (.there (.there (.here))))))))))) | exact .there (.there (.there (.there (.there (.there (.there (.there (.there (.there (.there (.there (.here))))))))))))) (Act.at_keys _)) ?_)
      refine WL.op rfl (opW.lenV rfl ((hmk.bel hS.old)) ?_)
      refine WL.op rfl (opW.geq rfl rfl ?_)
      refine WL.op rfl (opW.moveB rfl ?_)
      refine WL.gd _ 60 _ rfl rfl rfl rfl (fun hg61 => opW.fieldAddrB rfl ⟨rfl, Bel.refl _⟩) (fun w hw => ?_)
      replace hS := hS.bel hw
      refine WL.gd _ 60 _ rfl rfl rfl rfl (fun hg62 => opW.loadV (by first | exact gv_of rfl hg62 | rfl) (hS.ld1 (by first | exact .here | exact .there (.here) | exact .there (.there (.here)) | exact .there (.there (.there (.here))) | exact .there (.there (.there (.there (.here)))) | exact .there (.there (.there (.there (.there (.here))))) | exact .there (.there (.there (.there (.there (.there (.here)))))) | exact .there (.there (.there (.there (.there (.there (.there (.here))))))) | exact .there (.there (.there (.there (.there (.there (.there (.there (.here)))))))) | exact .there (.there (.there (.there (.there (.there (.there (.there (.there (.here))))))))) | exact .there (.there (.there (.there (.there (.there (.there (.there (.there (.there (.here)))))))))) | exact .there (.there (.there (.there (.there (.there (.there (.there (.there (.there (.there (.here))))))))))) | exact .there (.there (.there (.there (.there (.there (.there (.there (.there (.there (.there (.there (.here))))))))))))) (Act.at_keys _)) ⟨rfl, Bel.refl _⟩) (fun w hw => ?_)
      replace hS := hS.bel hw
      refine WL.gd _ 60 _ rfl rfl rfl rfl (fun hg63 => opW.lenV (by first | exact gv_of rfl hg63 | rfl) ((hmk.bel hS.old)) ⟨rfl, Bel.refl _⟩) (fun w hw => ?_)
      replace hS := hS.bel hw
      refine WL.gd _ 60 _ rfl rfl rfl rfl (fun hg64 => opW.leq (by first | exact gv_of rfl hg64 | rfl) rfl ⟨rfl, Bel.refl _⟩) (fun w hw => ?_)
      replace hS := hS.bel hw
      refine WL.op rfl (opW.pickAnd rfl (by first | rfl) rfl ?_)
      refine WL.op rfl (opW.assignB rfl ?_)
      have hM0 : (decide ((1 : Int) ≤ (m.keys.length : Int)) && decide ((m.keys.length : Int) ≤ 256)) = decide (1 ≤ m.keys.length ∧ m.keys.length ≤ 256) := by rw [Bool.eq_iff_iff]; simp; omega
      generalize (decide ((1 : Int) ≤ (m.keys.length : Int)) && decide ((m.keys.length : Int) ≤ 256)) = bm0 at hM0
      refine WL.nil ?_
      refine thenQ_n (hK9 _ _ ?_)
      refine WC.seq (fun K10 hK10 => ?_)
      refine WC.mid (fun f w => ∃ bm : Bool, Fits [(3, .pointer (some ⟨b3, 0, none⟩)), (5, .pointer (some ⟨p, 0, none⟩)), (6, v6), (7, v7), (8, .int .i64 e8), (9, v9), (10, .int .i64 e10), (12, v12), (13, .int .i64 e13), (14, .bool bm), (81, .bool false)] f ∧ St w0 [ownE v12 36 l12, tbE p d2, ownE v9 36 l9, ownE v6 36 ra, ownE v7 36 rb, blkE b3 (Enc.enc x) 38] w ∧ bm = decide (1 ≤ m.keys.length ∧ m.keys.length ≤ 256)) ?_ ?_
      ·
        refine WC.region ?_
        refine WL.op rfl (opW.moveB rfl ?_)
        refine WL.op rfl (opW.moveB rfl ?_)
        cases hcs67 : (bm0) with
        | true =>
          refine WL.gT 67 rfl rfl rfl (WL.op rfl (opW.moveI rfl ?_))
          refine WL.gT 67 rfl rfl rfl (WL.op rfl (opW.eql rfl rfl ?_))
          refine WL.gT 67 rfl rfl rfl (WL.op rfl (opW.moveI rfl ?_))
          refine WL.gT 67 rfl rfl rfl (WL.op rfl (opW.eql rfl rfl ?_))
          refine WL.gT 67 rfl rfl rfl (WL.op rfl (opW.boolF (by rw [(putC_may hf1 (of_decide_eq_true (hM0.symm.trans hcs67))).1]; simp) (opW.neqB rfl rfl ⟨rfl, rfl⟩) ?_))
          refine WL.op rfl (opW.pickT rfl rfl ?_)
          refine WL.op rfl (opW.moveB rfl ?_)
          refine WL.gT 74 rfl rfl rfl (WL.op rfl (opW.moveB rfl ?_))
          refine WL.gT 74 rfl rfl rfl (WL.op rfl (opW.not rfl ?_))
          refine WL.gT 74 rfl rfl rfl (WL.op rfl (opW.moveB rfl ?_))
          refine WL.gF 77 rfl rfl rfl rfl ?_
          refine WL.gF 77 rfl rfl rfl rfl ?_
          refine WL.gT 74 rfl rfl rfl (WL.op rfl (opW.pickT rfl rfl ?_))
          refine WL.op rfl (opW.pickT rfl rfl ?_)
          refine WL.nil ?_
          refine thenQ_n ?_
          exact ⟨_, ⟨rfl, rfl, rfl, rfl, rfl, rfl, rfl, rfl, rfl, rfl, rfl, trivial⟩, hS.sub (by repeat (first | with_reducible exact List.nil_sublist _ | with_reducible exact List.Sublist.refl _ | with_reducible refine List.Sublist.cons₂ _ ?_ | with_reducible refine List.Sublist.cons _ ?_)), hcs67.symm.trans hM0⟩
        | false =>
          refine WL.gF 67 rfl rfl rfl rfl ?_
          refine WL.gF 67 rfl rfl rfl rfl ?_
          refine WL.gF 67 rfl rfl rfl rfl ?_
          refine WL.gF 67 rfl rfl rfl rfl ?_
          refine WL.gF 67 rfl rfl rfl rfl ?_
          refine WL.op rfl (opW.pickT rfl rfl ?_)
          refine WL.op rfl (opW.moveB rfl ?_)
          refine WL.gT 74 rfl rfl rfl (WL.op rfl (opW.moveB rfl ?_))
          refine WL.gT 74 rfl rfl rfl (WL.op rfl (opW.not rfl ?_))
          refine WL.gT 74 rfl rfl rfl (WL.op rfl (opW.moveB rfl ?_))
          refine WL.gT 77 rfl rfl rfl (WL.op rfl (opW.moveI rfl ?_))
          refine WL.gT 77 rfl rfl rfl (WL.op rfl (opW.boolF (by unfold putC; rw [if_neg (of_decide_eq_false (hM0.symm.trans hcs67))]; decide) (opW.neq rfl rfl ⟨rfl, rfl⟩) ?_))
          refine WL.gT 74 rfl rfl rfl (WL.op rfl (opW.pickT rfl rfl ?_))
          refine WL.op rfl (opW.pickT rfl rfl ?_)
          refine WL.nil ?_
          refine thenQ_n ?_
          exact ⟨_, ⟨rfl, rfl, rfl, rfl, rfl, rfl, rfl, rfl, rfl, rfl, rfl, trivial⟩, hS.sub (by repeat (first | with_reducible exact List.nil_sublist _ | with_reducible exact List.Sublist.refl _ | with_reducible refine List.Sublist.cons₂ _ ?_ | with_reducible refine List.Sublist.cons _ ?_)), hcs67.symm.trans hM0⟩
      ·
        rintro f w ⟨bm, hfit, hS, hM⟩
        refine WC.fits _ hfit (fun g => ?_)
        clear hfit
        refine WC.cond _ rfl (fun hc1 => ?_) (fun hc1 => ?_)
        ·
          have hr1 := hc1
          try simp only [decide_eq_true_eq, decide_eq_false_iff_not, Bool.and_eq_true, Bool.or_eq_true, Bool.and_eq_false_iff, Bool.or_eq_false_iff, Bool.not_eq_true', Bool.not_eq_false', Int.not_lt, Int.not_le] at hc1
          exact absurd hr1 (by decide)
        ·
          have hr1 := hc1
          try simp only [decide_eq_true_eq, decide_eq_false_iff_not, Bool.and_eq_true, Bool.or_eq_true, Bool.and_eq_false_iff, Bool.or_eq_false_iff, Bool.not_eq_true', Bool.not_eq_false', Int.not_lt, Int.not_le] at hc1
          refine WC.skip ?_
          refine thenQ_n (hK10 _ _ ?_)
          refine WC.seq (fun K11 hK11 => ?_)
          refine WC.mid (fun f w =>  Fits [(3, .pointer (some ⟨b3, 0, none⟩)), (5, .pointer (some ⟨p, 0, none⟩)), (6, v6), (7, v7), (8, .int .i64 e8), (111, .bool false)] f ∧ St w0 [tbE p d2, ownE v6 36 ra, ownE v7 36 rb, blkE b3 (Enc.enc x) 38] w) ?_ ?_
          ·
            refine WC.region ?_
            refine WL.op rfl (opW.moveI rfl ?_)
            refine WL.op rfl (opW.eql rfl rfl ?_)
            refine WL.op rfl (opW.moveB rfl ?_)
            cases hcs84 : (decide (e10 = 0)) with
            | true =>
              refine WL.gT 84 rfl rfl rfl (WL.op rfl (opW.moveI rfl ?_))
              refine WL.gT 84 rfl rfl rfl (WL.op rfl (opW.boolF (by rw [(hA (of_decide_eq_true hcs84)).1]; decide) (opW.neq rfl rfl ⟨rfl, rfl⟩) ?_))
              refine WL.gT 84 rfl rfl rfl (WL.op rfl (opW.moveB rfl ?_))
              refine WL.gT 87 rfl rfl rfl (WL.op rfl (opW.moveV (v := v9) rfl ?_))
              refine WL.gT 87 rfl rfl rfl (WL.op rfl (opW.moveV (v := v12) rfl ?_))
              refine WL.gT 87 rfl rfl rfl (WL.op rfl (opW.call (sameKeys_ok _ v9 v12 l9 l12 (hS.sl (v := v9) (xs := l9) (by first | exact .here | exact .there (.here) | exact .there (.there (.here)) | exact .there (.there (.there (.here))) | exact .there (.there (.there (.there (.here)))) | exact .there (.there (.there (.there (.there (.here))))) | exact .there (.there (.there (.there (.there (.there (.here)))))) | exact .there (.there (.there (.there (.there (.there (.there (.here))))))) | exact .there (.there (.there (.there (.there (.there (.there (.there (.here)))))))) | exact .there (.there (.there (.there (.there (.there (.there (.there (.there (.here))))))))) | exact .there (.there (.there (.there (.there (.there (.there (.there (.there (.there (.here)))))))))) | exact .there (.there (.there (.there (.there (.there (.there (.there (.there (.there (.there (.here))))))))))) | exact .there (.there (.there (.there (.there (.there (.there (.there (.there (.there (.there (.there (.here)))))))))))))) (hS.sl (v := v12) (xs := l12) (by first | exact .here | exact .there (.here) | exact .there (.there (.here)) | exact .there (.there (.there (.here))) | exact .there (.there (.there (.there (.here)))) | exact .there (.there (.there (.there (.there (.here))))) | exact .there (.there (.there (.there (.there (.there (.here)))))) | exact .there (.there (.there (.there (.there (.there (.there (.here))))))) | exact .there (.there (.there (.there (.there (.there (.there (.there (.here)))))))) | exact .there (.there (.there (.there (.there (.there (.there (.there (.there (.here))))))))) | exact .there (.there (.there (.there (.there (.there (.there (.there (.there (.there (.here)))))))))) | exact .there (.there (.there (.there (.there (.there (.there (.there (.there (.there (.there (.here))))))))))) | exact .there (.there (.there (.there (.there (.there (.there (.there (.there (.there (.there (.there (.here))))))))))))))) rfl ?_))
              rintro _ w ⟨rfl, hw⟩; replace hS := hS.bel hw
              rw [decide_eq_true (hA (of_decide_eq_true hcs84)).2]
              refine WL.gT 87 rfl rfl rfl (WL.op rfl (opW.not rfl ?_))
              refine WL.gT 84 rfl rfl rfl (WL.op rfl (opW.pickT rfl rfl ?_))
              refine WL.op rfl (opW.pickT rfl rfl ?_)
              refine WL.op rfl (opW.moveB rfl ?_)
              refine WL.gT 94 rfl rfl rfl (WL.op rfl (opW.moveI rfl ?_))
              refine WL.gT 94 rfl rfl rfl (WL.op rfl (opW.boolF (by rw [of_decide_eq_true hcs84]; decide) (opW.neq rfl rfl ⟨rfl, rfl⟩) ?_))
              refine WL.gT 94 rfl rfl rfl (WL.op rfl (opW.moveB rfl ?_))
              refine WL.gF 97 rfl rfl rfl rfl ?_
              refine WL.gT 94 rfl rfl rfl (WL.op rfl (opW.pickT rfl rfl ?_))
              refine WL.gT 94 rfl rfl rfl (WL.op rfl (opW.moveB rfl ?_))
              refine WL.gF 100 rfl rfl rfl rfl ?_
              refine WL.gF 100 rfl rfl rfl rfl ?_
              refine WL.gF 100 rfl rfl rfl rfl ?_
              refine WL.gU 103 rfl rfl rfl rfl ?_
              refine WL.gU 103 rfl rfl rfl rfl ?_
              refine WL.gU 103 rfl rfl rfl rfl ?_
              refine WL.gU 103 rfl rfl rfl rfl ?_
              refine WL.gU 103 rfl rfl rfl rfl ?_
              refine WL.gF 100 rfl rfl rfl rfl ?_
              refine WL.gT 94 rfl rfl rfl (WL.op rfl (opW.pickT rfl rfl ?_))
              refine WL.op rfl (opW.pickT rfl rfl ?_)
              refine WL.nil ?_
              refine thenQ_n ?_
              exact ⟨⟨rfl, rfl, rfl, rfl, rfl, rfl, trivial⟩, hS.sub (by repeat (first | with_reducible exact List.nil_sublist _ | with_reducible exact List.Sublist.refl _ | with_reducible refine List.Sublist.cons₂ _ ?_ | with_reducible refine List.Sublist.cons _ ?_))⟩
            | false =>
              refine WL.gF 84 rfl rfl rfl rfl ?_
              refine WL.gF 84 rfl rfl rfl rfl ?_
              refine WL.gF 84 rfl rfl rfl rfl ?_
              refine WL.gU 87 rfl rfl rfl rfl ?_
              refine WL.gU 87 rfl rfl rfl rfl ?_
              refine WL.gU 87 rfl rfl rfl rfl ?_
              refine WL.gU 87 rfl rfl rfl rfl ?_
              refine WL.gF 84 rfl rfl rfl rfl ?_
              refine WL.op rfl (opW.pickT rfl rfl ?_)
              refine WL.op rfl (opW.moveB rfl ?_)
              refine WL.gT 94 rfl rfl rfl (WL.op rfl (opW.moveI rfl ?_))
              refine WL.gT 94 rfl rfl rfl (WL.op rfl (opW.boolT (by rw [decide_eq_false (of_decide_eq_false hcs84)]; rfl) (opW.neq rfl rfl ⟨rfl, rfl⟩) ?_))
              refine WL.gT 94 rfl rfl rfl (WL.op rfl (opW.moveB rfl ?_))
              refine WL.gT 97 rfl rfl rfl (WL.op rfl (opW.moveB rfl ?_))
              refine WL.gT 94 rfl rfl rfl (WL.op rfl (opW.pickT rfl rfl ?_))
              refine WL.gT 94 rfl rfl rfl (WL.op rfl (opW.moveB rfl ?_))
              cases hcs100 : (bm) with
              | true =>
                refine WL.gT 100 rfl rfl rfl (WL.op rfl (opW.moveI rfl ?_))
                refine WL.gT 100 rfl rfl rfl (WL.op rfl (opW.boolF (by rw [(hB (of_decide_eq_false hcs84) (of_decide_eq_true (hM.symm.trans hcs100))).1]; decide) (opW.neq rfl rfl ⟨rfl, rfl⟩) ?_))
                refine WL.gT 100 rfl rfl rfl (WL.op rfl (opW.moveB rfl ?_))
                refine WL.gT 103 rfl rfl rfl (WL.op rfl (opW.moveV (v := v12) rfl ?_))
                refine WL.gT 103 rfl rfl rfl (WL.op rfl (opW.fieldAddrB rfl ?_))
                refine WL.gT 103 rfl rfl rfl (WL.op rfl (opW.loadV rfl (hS.ld1 (by first | exact .here | exact .there (.here) | exact .there (.there (.here)) | exact .there (.there (.there (.here))) | exact .there (.there (.there (.there (.here)))) | exact .there (.there (.there (.there (.there (.here))))) | exact .there (.there (.there (.there (.there (.there (.here)))))) | exact .there (.there (.there (.there (.there (.there (.there (.here))))))) | exact .there (.there (.there (.there (.there (.there (.there (.there (.here)))))))) | exact .there (.there (.there (.there (.there (.there (.there (.there (.there (.here))))))))) | exact .there (.there (.there (.there (.there (.there (.there (.there (.there (.there (.here)))))))))) | exact .there (.there (.there (.there (.there (.there (.there (.there (.there (.there (.there (.here))))))))))) | exact .there (.there (.there (.there (.there (.there (.there (.there (.there (.there (.there (.there (.here))))))))))))) (Act.at_keys _)) ?_))
                refine WL.gT 103 rfl rfl rfl (WL.op rfl (opW.call (sameKeys_ok _ v12 _ l12 m.keys (hS.sl (v := v12) (xs := l12) (by first | exact .here | exact .there (.here) | exact .there (.there (.here)) | exact .there (.there (.there (.here))) | exact .there (.there (.there (.there (.here)))) | exact .there (.there (.there (.there (.there (.here))))) | exact .there (.there (.there (.there (.there (.there (.here)))))) | exact .there (.there (.there (.there (.there (.there (.there (.here))))))) | exact .there (.there (.there (.there (.there (.there (.there (.there (.here)))))))) | exact .there (.there (.there (.there (.there (.there (.there (.there (.there (.here))))))))) | exact .there (.there (.there (.there (.there (.there (.there (.there (.there (.there (.here)))))))))) | exact .there (.there (.there (.there (.there (.there (.there (.there (.there (.there (.there (.here))))))))))) | exact .there (.there (.there (.there (.there (.there (.there (.there (.there (.there (.there (.there (.here)))))))))))))) (hmk.bel hS.old)) rfl ?_))
                rintro _ w ⟨rfl, hw⟩; replace hS := hS.bel hw
                rw [decide_eq_true (hB (of_decide_eq_false hcs84) (of_decide_eq_true (hM.symm.trans hcs100))).2]
                refine WL.gT 103 rfl rfl rfl (WL.op rfl (opW.not rfl ?_))
                refine WL.gT 100 rfl rfl rfl (WL.op rfl (opW.pickT rfl rfl ?_))
                refine WL.gT 94 rfl rfl rfl (WL.op rfl (opW.pickT rfl rfl ?_))
                refine WL.op rfl (opW.pickT rfl rfl ?_)
                refine WL.nil ?_
                refine thenQ_n ?_
                exact ⟨⟨rfl, rfl, rfl, rfl, rfl, rfl, trivial⟩, hS.sub (by repeat (first | with_reducible exact List.nil_sublist _ | with_reducible exact List.Sublist.refl _ | with_reducible refine List.Sublist.cons₂ _ ?_ | with_reducible refine List.Sublist.cons _ ?_))⟩
              | false =>
                refine WL.gF 100 rfl rfl rfl rfl ?_
                refine WL.gF 100 rfl rfl rfl rfl ?_
                refine WL.gF 100 rfl rfl rfl rfl ?_
                refine WL.gU 103 rfl rfl rfl rfl ?_
                refine WL.gU 103 rfl rfl rfl rfl ?_
                refine WL.gU 103 rfl rfl rfl rfl ?_
                refine WL.gU 103 rfl rfl rfl rfl ?_
                refine WL.gU 103 rfl rfl rfl rfl ?_
                refine WL.gF 100 rfl rfl rfl rfl ?_
                refine WL.gT 94 rfl rfl rfl (WL.op rfl (opW.pickT rfl rfl ?_))
                refine WL.op rfl (opW.pickT rfl rfl ?_)
                refine WL.nil ?_
                refine thenQ_n ?_
                exact ⟨⟨rfl, rfl, rfl, rfl, rfl, rfl, trivial⟩, hS.sub (by repeat (first | with_reducible exact List.nil_sublist _ | with_reducible exact List.Sublist.refl _ | with_reducible refine List.Sublist.cons₂ _ ?_ | with_reducible refine List.Sublist.cons _ ?_))⟩
          ·
            rintro f w ⟨hfit, hS⟩
            refine WC.fits _ hfit (fun g => ?_)
            clear hfit
            refine WC.cond _ rfl (fun hc2 => ?_) (fun hc2 => ?_)
            ·
              have hr2 := hc2
              try simp only [decide_eq_true_eq, decide_eq_false_iff_not, Bool.and_eq_true, Bool.or_eq_true, Bool.and_eq_false_iff, Bool.or_eq_false_iff, Bool.not_eq_true', Bool.not_eq_false', Int.not_lt, Int.not_le] at hc2
              exact absurd hr2 (by decide)
            ·
              have hr2 := hc2
              try simp only [decide_eq_true_eq, decide_eq_false_iff_not, Bool.and_eq_true, Bool.or_eq_true, Bool.and_eq_false_iff, Bool.or_eq_false_iff, Bool.not_eq_true', Bool.not_eq_false', Int.not_lt, Int.not_le] at hc2
              refine WC.skip ?_
              refine thenQ_n (hK11 _ _ ?_)
              refine WC.seq (fun K12 hK12 => ?_)
              refine WC.region ?_
              refine WL.op rfl (opW.moveV (v := .pointer (some ⟨p, 0, none⟩)) rfl ?_)
              refine WL.op rfl (opW.fieldAddrB rfl ?_)
              refine WL.op rfl (opW.loadV rfl (hS.ld1 (by first | exact .here | exact .there (.here) | exact .there (.there (.here)) | exact .there (.there (.there (.here))) | exact .there (.there (.there (.there (.here)))) | exact .there (.there (.there (.there (.there (.here))))) | exact .there (.there (.there (.there (.there (.there (.here)))))) | exact .there (.there (.there (.there (.there (.there (.there (.here))))))) | exact .there (.there (.there (.there (.there (.there (.there (.there (.here)))))))) | exact .there (.there (.there (.there (.there (.there (.there (.there (.there (.here))))))))) | exact .there (.there (.there (.there (.there (.there (.there (.there (.there (.there (.here)))))))))) | exact .there (.there (.there (.there (.there (.there (.there (.there (.there (.there (.there (.here))))))))))) | exact .there (.there (.there (.there (.there (.there (.there (.there (.there (.there (.there (.there (.here))))))))))))) (Act.at_l _)) ?_)
              refine WL.op rfl (opW.call (resolve_ok _ p d2 x.l.v m.lk m.ms (hS.tbAt (by first | exact .here | exact .there (.here) | exact .there (.there (.here)) | exact .there (.there (.there (.here))) | exact .there (.there (.there (.there (.here)))) | exact .there (.there (.there (.there (.there (.here))))) | exact .there (.there (.there (.there (.there (.there (.here)))))) | exact .there (.there (.there (.there (.there (.there (.there (.here))))))) | exact .there (.there (.there (.there (.there (.there (.there (.there (.here)))))))) | exact .there (.there (.there (.there (.there (.there (.there (.there (.there (.here))))))))) | exact .there (.there (.there (.there (.there (.there (.there (.there (.there (.there (.here)))))))))) | exact .there (.there (.there (.there (.there (.there (.there (.there (.there (.there (.there (.here))))))))))) | exact .there (.there (.there (.there (.there (.there (.there (.there (.there (.there (.there (.there (.here)))))))))))))) (hml.bel hS.old) (hmm.bel hS.old) (by omega)) rfl ?_)
              rintro _ w ⟨v15, v16, e17, rx, ry, rfl, hN2, hr2x⟩
              replace hS := hS.merge hN2
              simp only [List.cons_append, List.nil_append] at hS
              have hmono : e8 = 0 → rx = ra ∧ ry = rb ∧ e17 = 0 := by
                intro he
                rcases hr1x with ⟨h1, _⟩ | ⟨_, h1, _⟩
                · exact hr2x.ok' (resF_mono (put_ext hp hsame) _ _ _ h1)
                · exact absurd he h1
              refine WL.op rfl (opW.moveV (v := .tuple #[v15, v16, .int .i64 e17]) rfl ?_)
              refine WL.op rfl (opW.extract rfl rfl ?_)
              refine WL.op rfl (opW.extract rfl rfl ?_)
              refine WL.op rfl (opW.extract rfl rfl ?_)
              refine WL.op rfl (opW.assignV (v := v15) rfl ?_)
              refine WL.op rfl (opW.assignV (v := v16) rfl ?_)
              refine WL.op rfl (opW.assignI rfl ?_)
              refine WL.nil ?_
              refine thenQ_n (hK12 _ _ ?_)
              refine WC.seq (fun K13 hK13 => ?_)
              refine WC.seq (fun K14 hK14 => ?_)
              refine WC.region ?_
              refine WL.op rfl (opW.moveI rfl ?_)
              refine WL.op rfl (opW.eql rfl rfl ?_)
              refine WL.op rfl (opW.moveB rfl ?_)
              cases hcs122 : (decide (e8 = 0)) with
              | true =>
                refine WL.gT 122 rfl rfl rfl (WL.op rfl (opW.moveI rfl ?_))
                refine WL.gT 122 rfl rfl rfl (WL.op rfl (opW.boolF (by rw [(hmono (of_decide_eq_true hcs122)).2.2]; decide) (opW.neq rfl rfl ⟨rfl, rfl⟩) ?_))
                refine WL.gT 122 rfl rfl rfl (WL.op rfl (opW.moveB rfl ?_))
                refine WL.gT 125 rfl rfl rfl (WL.op rfl (opW.moveV (v := v15) rfl ?_))
                refine WL.gT 125 rfl rfl rfl (WL.op rfl (opW.moveV (v := v6) rfl ?_))
                refine WL.gT 125 rfl rfl rfl (WL.op rfl (opW.call (sameKeys_ok _ v15 v6 rx ra (hS.sl (v := v15) (xs := rx) (by first | exact .here | exact .there (.here) | exact .there (.there (.here)) | exact .there (.there (.there (.here))) | exact .there (.there (.there (.there (.here)))) | exact .there (.there (.there (.there (.there (.here))))) | exact .there (.there (.there (.there (.there (.there (.here)))))) | exact .there (.there (.there (.there (.there (.there (.there (.here))))))) | exact .there (.there (.there (.there (.there (.there (.there (.there (.here)))))))) | exact .there (.there (.there (.there (.there (.there (.there (.there (.there (.here))))))))) | exact .there (.there (.there (.there (.there (.there (.there (.there (.there (.there (.here)))))))))) | exact .there (.there (.there (.there (.there (.there (.there (.there (.there (.there (.there (.here))))))))))) | exact .there (.there (.there (.there (.there (.there (.there (.there (.there (.there (.there (.there (.here)))))))))))))) (hS.sl (v := v6) (xs := ra) (by first | exact .here | exact .there (.here) | exact .there (.there (.here)) | exact .there (.there (.there (.here))) | exact .there (.there (.there (.there (.here)))) | exact .there (.there (.there (.there (.there (.here))))) | exact .there (.there (.there (.there (.there (.there (.here)))))) | exact .there (.there (.there (.there (.there (.there (.there (.here))))))) | exact .there (.there (.there (.there (.there (.there (.there (.there (.here)))))))) | exact .there (.there (.there (.there (.there (.there (.there (.there (.there (.here))))))))) | exact .there (.there (.there (.there (.there (.there (.there (.there (.there (.there (.here)))))))))) | exact .there (.there (.there (.there (.there (.there (.there (.there (.there (.there (.there (.here))))))))))) | exact .there (.there (.there (.there (.there (.there (.there (.there (.there (.there (.there (.there (.here))))))))))))))) rfl ?_))
                rintro _ w ⟨rfl, hw⟩; replace hS := hS.bel hw
                rw [decide_eq_true (hmono (of_decide_eq_true hcs122)).1]
                refine WL.gT 125 rfl rfl rfl (WL.op rfl (opW.not rfl ?_))
                refine WL.gT 122 rfl rfl rfl (WL.op rfl (opW.pickT rfl rfl ?_))
                refine WL.gT 122 rfl rfl rfl (WL.op rfl (opW.moveB rfl ?_))
                refine WL.gT 131 rfl rfl rfl (WL.op rfl (opW.moveV (v := v16) rfl ?_))
                refine WL.gT 131 rfl rfl rfl (WL.op rfl (opW.moveV (v := v7) rfl ?_))
                refine WL.gT 131 rfl rfl rfl (WL.op rfl (opW.call (sameKeys_ok _ v16 v7 ry rb (hS.sl (v := v16) (xs := ry) (by first | exact .here | exact .there (.here) | exact .there (.there (.here)) | exact .there (.there (.there (.here))) | exact .there (.there (.there (.there (.here)))) | exact .there (.there (.there (.there (.there (.here))))) | exact .there (.there (.there (.there (.there (.there (.here)))))) | exact .there (.there (.there (.there (.there (.there (.there (.here))))))) | exact .there (.there (.there (.there (.there (.there (.there (.there (.here)))))))) | exact .there (.there (.there (.there (.there (.there (.there (.there (.there (.here))))))))) | exact .there (.there (.there (.there (.there (.there (.there (.there (.there (.there (.here)))))))))) | exact .there (.there (.there (.there (.there (.there (.there (.there (.there (.there (.there (.here))))))))))) | exact .there (.there (.there (.there (.there (.there (.there (.there (.there (.there (.there (.there (.here)))))))))))))) (hS.sl (v := v7) (xs := rb) (by first | exact .here | exact .there (.here) | exact .there (.there (.here)) | exact .there (.there (.there (.here))) | exact .there (.there (.there (.there (.here)))) | exact .there (.there (.there (.there (.there (.here))))) | exact .there (.there (.there (.there (.there (.there (.here)))))) | exact .there (.there (.there (.there (.there (.there (.there (.here))))))) | exact .there (.there (.there (.there (.there (.there (.there (.there (.here)))))))) | exact .there (.there (.there (.there (.there (.there (.there (.there (.there (.here))))))))) | exact .there (.there (.there (.there (.there (.there (.there (.there (.there (.there (.here)))))))))) | exact .there (.there (.there (.there (.there (.there (.there (.there (.there (.there (.there (.here))))))))))) | exact .there (.there (.there (.there (.there (.there (.there (.there (.there (.there (.there (.there (.here))))))))))))))) rfl ?_))
                rintro _ w ⟨rfl, hw⟩; replace hS := hS.bel hw
                rw [decide_eq_true (hmono (of_decide_eq_true hcs122)).2.1]
                refine WL.gT 131 rfl rfl rfl (WL.op rfl (opW.not rfl ?_))
                refine WL.gT 122 rfl rfl rfl (WL.op rfl (opW.pickT rfl rfl ?_))
                refine WL.op rfl (opW.pickT rfl rfl ?_)
                refine WL.nil ?_
                refine thenQ_n (hK14 _ _ ?_)
                refine WC.cond _ rfl (fun hc3 => ?_) (fun hc3 => ?_)
                ·
                  have hr3 := hc3
                  try simp only [decide_eq_true_eq, decide_eq_false_iff_not, Bool.and_eq_true, Bool.or_eq_true, Bool.and_eq_false_iff, Bool.or_eq_false_iff, Bool.not_eq_true', Bool.not_eq_false', Int.not_lt, Int.not_le] at hc3
                  exact absurd hr3 (by decide)
                ·
                  have hr3 := hc3
                  try simp only [decide_eq_true_eq, decide_eq_false_iff_not, Bool.and_eq_true, Bool.or_eq_true, Bool.and_eq_false_iff, Bool.or_eq_false_iff, Bool.not_eq_true', Bool.not_eq_false', Int.not_lt, Int.not_le] at hc3
                  refine WC.skip ?_
                  refine thenQ_n (hK13 _ _ ?_)
                  refine WC.seq (fun K15 hK15 => ?_)
                  refine WC.region ?_
                  refine WL.op rfl (opW.call (lives06 _) rfl ?_)
                  rintro _ w ⟨rfl, hw⟩; replace hS := hS.bel hw
                  refine WL.op rfl (opW.assignB rfl ?_)
                  refine WL.nil ?_
                  refine thenQ_n (hK15 _ _ ?_)
                  refine WC.ret ?_
                  refine bodyQ_ret (.tmpB rfl .nil) ?_
                  exact ⟨rfl, hS.old⟩
              | false =>
                refine WL.gF 122 rfl rfl rfl rfl ?_
                refine WL.gF 122 rfl rfl rfl rfl ?_
                refine WL.gF 122 rfl rfl rfl rfl ?_
                refine WL.gU 125 rfl rfl rfl rfl ?_
                refine WL.gU 125 rfl rfl rfl rfl ?_
                refine WL.gU 125 rfl rfl rfl rfl ?_
                refine WL.gU 125 rfl rfl rfl rfl ?_
                refine WL.gF 122 rfl rfl rfl rfl ?_
                refine WL.gF 122 rfl rfl rfl rfl ?_
                refine WL.gU 131 rfl rfl rfl rfl ?_
                refine WL.gU 131 rfl rfl rfl rfl ?_
                refine WL.gU 131 rfl rfl rfl rfl ?_
                refine WL.gU 131 rfl rfl rfl rfl ?_
                refine WL.gF 122 rfl rfl rfl rfl ?_
                refine WL.op rfl (opW.pickT rfl rfl ?_)
                refine WL.nil ?_
                refine thenQ_n (hK14 _ _ ?_)
                refine WC.cond _ rfl (fun hc3 => ?_) (fun hc3 => ?_)
                ·
                  have hr3 := hc3
                  try simp only [decide_eq_true_eq, decide_eq_false_iff_not, Bool.and_eq_true, Bool.or_eq_true, Bool.and_eq_false_iff, Bool.or_eq_false_iff, Bool.not_eq_true', Bool.not_eq_false', Int.not_lt, Int.not_le] at hc3
                  exact absurd hr3 (by decide)
                ·
                  have hr3 := hc3
                  try simp only [decide_eq_true_eq, decide_eq_false_iff_not, Bool.and_eq_true, Bool.or_eq_true, Bool.and_eq_false_iff, Bool.or_eq_false_iff, Bool.not_eq_true', Bool.not_eq_false', Int.not_lt, Int.not_le] at hc3
                  refine WC.skip ?_
                  refine thenQ_n (hK13 _ _ ?_)
                  refine WC.seq (fun K16 hK16 => ?_)
                  refine WC.region ?_
                  refine WL.op rfl (opW.call (lives06 _) rfl ?_)
                  rintro _ w ⟨rfl, hw⟩; replace hS := hS.bel hw
                  refine WL.op rfl (opW.assignB rfl ?_)
                  refine WL.nil ?_
                  refine thenQ_n (hK16 _ _ ?_)
                  refine WC.ret ?_
                  refine bodyQ_ret (.tmpB rfl .nil) ?_
                  exact ⟨rfl, hS.old⟩

end Go.Fer
