/- Add -/
import Derived.Test.YtinclpfoiljioaaA
set_option linter.all false
namespace Go.Fer
open Go Go.Proofs Go.RowKit

def NowIs (d : TrD) (cost : Nat) (keys : List Key) (now : List (Key × Nat)) : Prop := ∀ x, aget x now = if x ∈ keys then some (sumH (d.ofK x) cost) else none
theorem NowIs.nil (d : TrD) (cost : Nat) : NowIs d cost [] [] := fun x => by simp [aget]
theorem NowIs.step {d : TrD} {cost : Nat} {keys : List Key} {now : List (Key × Nat)} {k : Nat} (hk : k < keys.length) (h : NowIs d cost (keys.take k) now) : NowIs d cost (keys.take (k + 1)) (aput keys[k] (sumH (d.ofK keys[k]) cost) now) := by
  intro x
  have hm : x ∈ keys.take (k + 1) ↔ x ∈ keys.take k ∨ x = keys[k] := by rw [List.take_succ_eq_append_getElem hk, List.mem_append, List.mem_singleton]
  rw [aget_aput, h x]
  by_cases e : x = keys[k]
  · rw [if_pos e, if_pos (hm.2 (.inr e)), e]
  · rw [if_neg e]
    by_cases hx : x ∈ keys.take k
    · rw [if_pos hx, if_pos (hm.2 (.inl hx))]
    · rw [if_neg hx, if_neg (fun h => (hm.1 h).elim hx e)]
theorem aget_at {κ ν : Type} [DecidableEq κ] : ∀ {l : List (κ × ν)} {i : Nat} (hi : i < l.length), (l.map Prod.fst).Nodup → aget (l[i]'hi).1 l = some (l[i]'hi).2
  | (x, v) :: r, 0, _, _ => by simp [aget]
  | (x, v) :: r, i + 1, hi, hn => by
    simp only [List.map_cons, List.nodup_cons] at hn
    have hi' : i < r.length := by simpa using hi
    have ih := aget_at hi' hn.2
    have hne : r[i].1 ≠ x := fun e => hn.1 (e ▸ List.mem_map_of_mem (List.getElem_mem hi'))
    simp [aget, hne, ih]
theorem aget_ex {κ ν : Type} [DecidableEq κ] : ∀ {l : List (κ × ν)} {k : κ} {v : ν}, aget k l = some v → ∃ i, ∃ hi : i < l.length, (l[i]'hi).1 = k
  | (x, u) :: r, k, v, h => by
    by_cases hk : k = x
    · exact ⟨0, by simp, by simp [hk]⟩
    · simp [aget, hk] at h
      obtain ⟨i, hi, e⟩ := aget_ex h
      exact ⟨i + 1, by simpa using hi, by simpa using e⟩
/-- the sums of some places are written over -/
def CurIs (d : TrD) (cost : Nat) (now : List (Key × Nat)) (is : List Nat) (cur : List (Key × Nat)) : Prop :=
  (∀ i ∈ is, ∀ hi : i < now.length, (aget (now[i]'hi).1 cur).getD 0 = sumH (d.ofK (now[i]'hi).1) cost) ∧ ∀ x, (∀ i ∈ is, ∀ hi : i < now.length, (now[i]'hi).1 ≠ x) → (aget x cur).getD 0 = d.ofK x
theorem CurIs.nil (d : TrD) (cost : Nat) (now : List (Key × Nat)) : CurIs d cost now [] d.kvs := ⟨fun i h => (by cases h), fun x _ => rfl⟩
theorem CurIs.step {d : TrD} {cost : Nat} {keys : List Key} {now cur : List (Key × Nat)} {is : List Nat} {i : Nat} (hi : i < now.length) (hn : (now.map Prod.fst).Nodup) (hnow : NowIs d cost keys now) (h : CurIs d cost now is cur) :
    CurIs d cost now (is ++ [i]) (aput now[i].1 now[i].2 cur) := by
  have hv : now[i].2 = sumH (d.ofK now[i].1) cost := by
    have h1 := aget_at hi hn
    rw [hnow] at h1
    split at h1
    · exact (Option.some.inj h1).symm
    · cases h1
  refine ⟨fun j hj hjl => ?_, fun x hx => ?_⟩
  · rw [aget_aput]
    by_cases e : now[j].1 = now[i].1
    · rw [if_pos e, Option.getD_some, hv, e]
    · rw [if_neg e]
      rcases List.mem_append.1 hj with hj | hj
      · exact h.1 j hj hjl
      · simp at hj; subst hj; exact absurd rfl e
  · rw [aget_aput, if_neg (fun e => hx i (by simp) hi e.symm)]
    exact h.2 x fun j hj hjl => hx j (List.mem_append_left _ hj) hjl
theorem CurIs.all {d : TrD} {cost : Nat} {keys : List Key} {now cur : List (Key × Nat)} {is : List Nat} (hn : (now.map Prod.fst).Nodup) (hnow : NowIs d cost keys now) (h : CurIs d cost now is cur) (hall : ∀ i, i < now.length → i ∈ is) (x : Key) :
    (aget x cur).getD 0 = if x ∈ keys then sumH (d.ofK x) cost else d.ofK x := by
  by_cases hx : x ∈ keys
  · rw [if_pos hx]
    have h1 := hnow x
    rw [if_pos hx] at h1
    obtain ⟨i, hi, rfl⟩ := aget_ex h1
    exact h.1 i (hall i hi) hi
  · rw [if_neg hx]
    refine h.2 x fun i _ hi e => ?_
    have h1 := aget_at hi hn
    rw [e, hnow x, if_neg hx] at h1
    cases h1

theorem add_ok (wb w0 : World) (S : List Ent) (p : Nat) (d : TrD) (cost : Nat) (keys : List Key) (space : Nat) (v : Value) (hS0 : St wb (trE p d :: S) w0) (hok : TrOk d) (hk : ∀ w, St wb S w → SlR w v keys) : Ret Try.prog 14 #[.pointer (some ⟨p, 0, none⟩), .int .u64 (cost : Int), v, .int .u64 (space : Int)] w0 (fun u w' => ∃ d', u = .int .i64 (wouldC d cost keys space) ∧ (wouldC d cost keys space = 0 → AddIs d cost keys space d') ∧ (wouldC d cost keys space ≠ 0 → d' = d) ∧ TrOk d' ∧ St wb (trE p d' :: S) w') := by
  refine Ret.enter (args := [.pointer (some ⟨p, 0, none⟩), .int .u64 (cost : Int), v, .int .u64 (space : Int)]) Try.func14 rfl Try.ntmps14 Try.results14 rfl ?_
  have hS := St.start w0
  replace hS := hS0.trOpen
  refine WC.seq (fun K1 hK1 => ?_)
  refine WC.region ?_
  refine WL.op rfl (opW.assignI rfl ?_)
  refine WL.nil ?_
  refine thenQ_n (hK1 _ _ ?_)
  refine WC.seq (fun K2 hK2 => ?_)
  refine WC.seq (fun K3 hK3 => ?_)
  refine WC.region ?_
  refine WL.op rfl (opW.moveV (v := .pointer (some ⟨p, 0, none⟩)) rfl ?_)
  refine WL.op rfl (opW.moveI rfl ?_)
  refine WL.op rfl (opW.moveV (v := v) rfl ?_)
  refine WL.op rfl (opW.moveI rfl ?_)
  refine WL.op rfl (opW.call (would_ok _ p d cost keys space v ⟨hS.pt (by first | exact .here | exact .there (.here) | exact .there (.there (.here)) | exact .there (.there (.there (.here))) | exact .there (.there (.there (.there (.here)))) | exact .there (.there (.there (.there (.there (.here))))) | exact .there (.there (.there (.there (.there (.there (.here)))))) | exact .there (.there (.there (.there (.there (.there (.there (.here))))))) | exact .there (.there (.there (.there (.there (.there (.there (.there (.here)))))))) | exact .there (.there (.there (.there (.there (.there (.there (.there (.there (.here))))))))) | exact .there (.there (.there (.there (.there (.there (.there (.there (.there (.there (.here)))))))))) | exact .there (.there (.there (.there (.there (.there (.there (.there (.there (.there (.there (.here))))))))))) | exact .there (.there (.there (.there (.there (.there (.there (.there (.there (.there (.there (.there (.here))))))))))))), hS.map (by first | exact .here | exact .there (.here) | exact .there (.there (.here)) | exact .there (.there (.there (.here))) | exact .there (.there (.there (.there (.here)))) | exact .there (.there (.there (.there (.there (.here))))) | exact .there (.there (.there (.there (.there (.there (.here)))))) | exact .there (.there (.there (.there (.there (.there (.there (.here))))))) | exact .there (.there (.there (.there (.there (.there (.there (.there (.here)))))))) | exact .there (.there (.there (.there (.there (.there (.there (.there (.there (.here))))))))) | exact .there (.there (.there (.there (.there (.there (.there (.there (.there (.there (.here)))))))))) | exact .there (.there (.there (.there (.there (.there (.there (.there (.there (.there (.there (.here))))))))))) | exact .there (.there (.there (.there (.there (.there (.there (.there (.there (.there (.there (.there (.here)))))))))))))⟩ hok (hk _ (hS.sub (by repeat (first | with_reducible exact List.nil_sublist _ | with_reducible exact List.Sublist.refl _ | with_reducible refine List.Sublist.cons₂ _ ?_ | with_reducible refine List.Sublist.cons _ ?_))))) rfl ?_)
  rintro _ w ⟨rfl, hw⟩; replace hS := hS.bel hw
  refine WL.op rfl (opW.assignI rfl ?_)
  refine WL.nil ?_
  refine thenQ_n (hK3 _ _ ?_)
  refine WC.seq (fun K4 hK4 => ?_)
  refine WC.region ?_
  refine WL.op rfl (opW.moveI rfl ?_)
  refine WL.op rfl (opW.neq rfl rfl ?_)
  refine WL.nil ?_
  refine thenQ_n (hK4 _ _ ?_)
  refine WC.cond _ rfl (fun hc0 => ?_) (fun hc0 => ?_)
  ·
    have hr0 := hc0
    try simp only [decide_eq_true_eq, decide_eq_false_iff_not, Bool.and_eq_true, Bool.or_eq_true, Bool.and_eq_false_iff, Bool.or_eq_false_iff, Bool.not_eq_true', Bool.not_eq_false', Int.not_lt, Int.not_le] at hc0
    refine WC.seq (fun K5 hK5 => ?_)
    refine WC.region ?_
    refine WL.op rfl (opW.moveI rfl ?_)
    refine WL.op rfl (opW.assignI rfl ?_)
    refine WL.nil ?_
    refine thenQ_n (hK5 _ _ ?_)
    refine WC.ret ?_
    refine thenQ_r ?_
    refine bodyQ_ret (.tmpI rfl .nil) ?_
    have hz : wouldC d cost keys space ≠ 0 := by simpa using hr0
    exact ⟨d, rfl, fun h => absurd h hz, fun _ => rfl, hok, hS.trClose d⟩
  ·
    have hr0 := hc0
    try simp only [decide_eq_true_eq, decide_eq_false_iff_not, Bool.and_eq_true, Bool.or_eq_true, Bool.and_eq_false_iff, Bool.or_eq_false_iff, Bool.not_eq_true', Bool.not_eq_false', Int.not_lt, Int.not_le] at hc0
    have hz : wouldC d cost keys space = 0 := by simpa using hr0
    refine WC.skip ?_
    refine thenQ_n (hK2 _ _ ?_)
    refine WC.mid (fun f w =>  Fits [(0, .pointer (some ⟨p, 0, none⟩)), (1, .int .u64 (cost : Int)), (2, v)] f ∧ St wb (blkE p (Enc.enc (TrS.mk d.lim (sumH d.block cost) (sumH d.space space) (some d.r))) 44 :: mapE d.r nv d.kvs :: S) w) ?_ ?_
    ·
      refine WC.draw 16 (.look 0 (.look 1 (.look 2 (.look 3 (.look 4 (.look 5 (.look 6 (.look 9 (.look 10 (.look 11 (.look 12 (.look 13 (.fork 7 14 (.fork 8 14 (.one 14 (.one 15 (.one 16 (.one 17 (.one 18 (.one 19 (.one 20 (.one 21 .nil)))))))) (.one 8 (.one 15 (.one 16 (.one 17 (.one 18 (.one 19 (.one 20 (.one 21 .nil))))))))) (.one 7 (.one 8 (.one 15 (.one 16 (.one 17 (.one 18 (.one 19 (.one 20 (.one 21 .nil)))))))))))))))))))))) (by kernel_rfl) (fun _ _ _ h => h) (fun w1 hw1 => ?_)
      replace hS := hS.bel hw1
      have hS1 := hS
      have hT := St.start w1
      refine ML.look rfl rfl rfl (fun w hw => (by have hS := hS1.bel hw; exact opW.moveV (v := .pointer (some ⟨p, 0, none⟩)) rfl ⟨rfl, rfl⟩)) ?_
      refine ML.look rfl rfl rfl (fun w hw => (by have hS := hS1.bel hw; exact opW.moveV (v := .pointer (some ⟨p, 0, none⟩)) rfl ⟨rfl, rfl⟩)) ?_
      refine ML.look rfl rfl rfl (fun w hw => (by have hS := hS1.bel hw; exact opW.moveV (v := .pointer (some ⟨p, 0, none⟩)) rfl ⟨rfl, rfl⟩)) ?_
      refine ML.look rfl rfl rfl (fun w hw => (by have hS := hS1.bel hw; exact opW.nilCheckB rfl ⟨rfl, rfl⟩)) ?_
      refine ML.look rfl rfl rfl (fun w hw => (by have hS := hS1.bel hw; exact opW.fieldAddrB rfl ⟨rfl, rfl⟩)) ?_
      refine ML.look rfl rfl rfl (fun w hw => (by have hS := hS1.bel hw; exact opW.loadV rfl (hS.ld1 (by first | exact .here | exact .there (.here) | exact .there (.there (.here)) | exact .there (.there (.there (.here))) | exact .there (.there (.there (.there (.here)))) | exact .there (.there (.there (.there (.there (.here))))) | exact .there (.there (.there (.there (.there (.there (.here)))))) | exact .there (.there (.there (.there (.there (.there (.there (.here))))))) | exact .there (.there (.there (.there (.there (.there (.there (.there (.here)))))))) | exact .there (.there (.there (.there (.there (.there (.there (.there (.there (.here))))))))) | exact .there (.there (.there (.there (.there (.there (.there (.there (.there (.there (.here)))))))))) | exact .there (.there (.there (.there (.there (.there (.there (.there (.there (.there (.there (.here))))))))))) | exact .there (.there (.there (.there (.there (.there (.there (.there (.there (.there (.there (.there (.here))))))))))))) (TrS.at_block _)) ⟨rfl, rfl⟩)) ?_
      refine ML.look rfl rfl rfl (fun w hw => (by have hS := hS1.bel hw; exact opW.moveI rfl ⟨rfl, rfl⟩)) ?_
      refine ML.look rfl rfl rfl (fun w hw => (by have hS := hS1.bel hw; exact opW.moveV (v := .pointer (some ⟨p, 0, none⟩)) rfl ⟨rfl, rfl⟩)) ?_
      refine ML.look rfl rfl rfl (fun w hw => (by have hS := hS1.bel hw; exact opW.nilCheckB rfl ⟨rfl, rfl⟩)) ?_
      refine ML.look rfl rfl rfl (fun w hw => (by have hS := hS1.bel hw; exact opW.fieldAddrB rfl ⟨rfl, rfl⟩)) ?_
      refine ML.look rfl rfl rfl (fun w hw => (by have hS := hS1.bel hw; exact opW.loadV rfl (hS.ld1 (by first | exact .here | exact .there (.here) | exact .there (.there (.here)) | exact .there (.there (.there (.here))) | exact .there (.there (.there (.there (.here)))) | exact .there (.there (.there (.there (.there (.here))))) | exact .there (.there (.there (.there (.there (.there (.here)))))) | exact .there (.there (.there (.there (.there (.there (.there (.here))))))) | exact .there (.there (.there (.there (.there (.there (.there (.there (.here)))))))) | exact .there (.there (.there (.there (.there (.there (.there (.there (.there (.here))))))))) | exact .there (.there (.there (.there (.there (.there (.there (.there (.there (.there (.here)))))))))) | exact .there (.there (.there (.there (.there (.there (.there (.there (.there (.there (.there (.here))))))))))) | exact .there (.there (.there (.there (.there (.there (.there (.there (.there (.there (.there (.there (.here))))))))))))) (TrS.at_space _)) ⟨rfl, rfl⟩)) ?_
      refine ML.look rfl rfl rfl (fun w hw => (by have hS := hS1.bel hw; exact opW.moveI rfl ⟨rfl, rfl⟩)) ?_
      refine ML.fork rfl rfl rfl rfl ?_ ?_ 
      · refine opW.buildSl hT (([⟨d.block⟩, ⟨cost⟩] : List U64)) [.int .u64 (d.block : Int), .int .u64 (cost : Int)] rfl rfl rfl rfl (by decide) ?_
        intro b30 w hw hT
        refine ⟨hT.old, ?_⟩
        have hS := hS1.merge hT
        try simp only [List.cons_append, List.nil_append] at hS
        refine ML.fork rfl rfl rfl rfl ?_ ?_ 
        · refine opW.call (sum_ok _ _ ([⟨d.block⟩, ⟨cost⟩] : List U64) (hS.sl (by first | exact .here | exact .there (.here) | exact .there (.there (.here)) | exact .there (.there (.there (.here))) | exact .there (.there (.there (.there (.here)))) | exact .there (.there (.there (.there (.there (.here))))) | exact .there (.there (.there (.there (.there (.there (.here)))))) | exact .there (.there (.there (.there (.there (.there (.there (.here))))))) | exact .there (.there (.there (.there (.there (.there (.there (.there (.here)))))))) | exact .there (.there (.there (.there (.there (.there (.there (.there (.there (.here))))))))) | exact .there (.there (.there (.there (.there (.there (.there (.there (.there (.there (.here)))))))))) | exact .there (.there (.there (.there (.there (.there (.there (.there (.there (.there (.there (.here))))))))))) | exact .there (.there (.there (.there (.there (.there (.there (.there (.there (.there (.there (.there (.here))))))))))))))) rfl ?_
          rintro _ w ⟨rfl, hw⟩; replace hT := hT.bel hw
          rw [sumsH_two _ _ hok.1]
          refine ⟨hT.old, ?_⟩
          have hS := hS1.merge hT
          try simp only [List.cons_append, List.nil_append] at hS
          refine ML.one rfl rfl rfl (opW.buildSl hT (([⟨d.space⟩, ⟨space⟩] : List U64)) [.int .u64 (d.space : Int), .int .u64 (space : Int)] rfl rfl rfl rfl (by decide) ?_)
          intro b37 w hw hT
          refine ⟨hT.old, ?_⟩
          have hS := hS1.merge hT
          try simp only [List.cons_append, List.nil_append] at hS
          refine ML.one rfl rfl rfl (opW.call (sum_ok _ _ ([⟨d.space⟩, ⟨space⟩] : List U64) (hS.sl (by first | exact .here | exact .there (.here) | exact .there (.there (.here)) | exact .there (.there (.there (.here))) | exact .there (.there (.there (.there (.here)))) | exact .there (.there (.there (.there (.there (.here))))) | exact .there (.there (.there (.there (.there (.there (.here)))))) | exact .there (.there (.there (.there (.there (.there (.there (.here))))))) | exact .there (.there (.there (.there (.there (.there (.there (.there (.here)))))))) | exact .there (.there (.there (.there (.there (.there (.there (.there (.there (.here))))))))) | exact .there (.there (.there (.there (.there (.there (.there (.there (.there (.there (.here)))))))))) | exact .there (.there (.there (.there (.there (.there (.there (.there (.there (.there (.there (.here))))))))))) | exact .there (.there (.there (.there (.there (.there (.there (.there (.there (.there (.there (.there (.here))))))))))))))) rfl ?_)
          rintro _ w ⟨rfl, hw⟩; replace hT := hT.bel hw
          rw [sumsH_two _ _ hok.2.1]
          refine ⟨hT.old, ?_⟩
          have hS := hS1.merge hT
          try simp only [List.cons_append, List.nil_append] at hS
          refine ML.put1 rfl rfl rfl rfl (opW.nilCheckB rfl ?_)
          refine ML.put1 rfl rfl rfl rfl (opW.fieldAddrB rfl ?_)
          refine ML.put0 rfl rfl rfl (opW.storeF (sz := 1) hS rfl rfl (by first | exact .here | exact .there (.here) | exact .there (.there (.here)) | exact .there (.there (.there (.here))) | exact .there (.there (.there (.there (.here)))) | exact .there (.there (.there (.there (.there (.here))))) | exact .there (.there (.there (.there (.there (.there (.here)))))) | exact .there (.there (.there (.there (.there (.there (.there (.here))))))) | exact .there (.there (.there (.there (.there (.there (.there (.there (.here)))))))) | exact .there (.there (.there (.there (.there (.there (.there (.there (.there (.here))))))))) | exact .there (.there (.there (.there (.there (.there (.there (.there (.there (.there (.here)))))))))) | exact .there (.there (.there (.there (.there (.there (.there (.there (.there (.there (.there (.here))))))))))) | exact .there (.there (.there (.there (.there (.there (.there (.there (.there (.there (.there (.there (.here))))))))))))) rfl (by rw [Enc.size_eq]; decide) (one_int _ _) (TrS.set_block _ _) ?_)
          intro w hS; replace hS := hS _ (by first | exact .here | exact .there (.here) | exact .there (.there (.here)) | exact .there (.there (.there (.here))) | exact .there (.there (.there (.there (.here)))) | exact .there (.there (.there (.there (.there (.here))))) | exact .there (.there (.there (.there (.there (.there (.here)))))) | exact .there (.there (.there (.there (.there (.there (.there (.here))))))) | exact .there (.there (.there (.there (.there (.there (.there (.there (.here)))))))) | exact .there (.there (.there (.there (.there (.there (.there (.there (.there (.here))))))))) | exact .there (.there (.there (.there (.there (.there (.there (.there (.there (.there (.here)))))))))) | exact .there (.there (.there (.there (.there (.there (.there (.there (.there (.there (.there (.here))))))))))) | exact .there (.there (.there (.there (.there (.there (.there (.there (.there (.there (.there (.there (.here)))))))))))))
          refine ML.put1 rfl rfl rfl rfl (opW.nilCheckB rfl ?_)
          refine ML.put1 rfl rfl rfl rfl (opW.fieldAddrB rfl ?_)
          refine ML.put0 rfl rfl rfl (opW.storeF (sz := 1) hS rfl rfl (by first | exact .here | exact .there (.here) | exact .there (.there (.here)) | exact .there (.there (.there (.here))) | exact .there (.there (.there (.there (.here)))) | exact .there (.there (.there (.there (.there (.here))))) | exact .there (.there (.there (.there (.there (.there (.here)))))) | exact .there (.there (.there (.there (.there (.there (.there (.here))))))) | exact .there (.there (.there (.there (.there (.there (.there (.there (.here)))))))) | exact .there (.there (.there (.there (.there (.there (.there (.there (.there (.here))))))))) | exact .there (.there (.there (.there (.there (.there (.there (.there (.there (.there (.here)))))))))) | exact .there (.there (.there (.there (.there (.there (.there (.there (.there (.there (.there (.here))))))))))) | exact .there (.there (.there (.there (.there (.there (.there (.there (.there (.there (.there (.there (.here))))))))))))) rfl (by rw [Enc.size_eq]; decide) (one_int _ _) (TrS.set_space _ _) ?_)
          intro w hS; replace hS := hS _ (by first | exact .here | exact .there (.here) | exact .there (.there (.here)) | exact .there (.there (.there (.here))) | exact .there (.there (.there (.there (.here)))) | exact .there (.there (.there (.there (.there (.here))))) | exact .there (.there (.there (.there (.there (.there (.here)))))) | exact .there (.there (.there (.there (.there (.there (.there (.here))))))) | exact .there (.there (.there (.there (.there (.there (.there (.there (.here)))))))) | exact .there (.there (.there (.there (.there (.there (.there (.there (.there (.here))))))))) | exact .there (.there (.there (.there (.there (.there (.there (.there (.there (.there (.here)))))))))) | exact .there (.there (.there (.there (.there (.there (.there (.there (.there (.there (.there (.here))))))))))) | exact .there (.there (.there (.there (.there (.there (.there (.there (.there (.there (.there (.there (.here)))))))))))))
          refine ML.nil ?_
          refine thenQ_n ?_
          exact ⟨⟨rfl, rfl, rfl, trivial⟩, hS.sub (by repeat (first | with_reducible exact List.nil_sublist _ | with_reducible exact List.Sublist.refl _ | with_reducible refine List.Sublist.cons₂ _ ?_ | with_reducible refine List.Sublist.cons _ ?_))⟩
        · refine opW.buildSl hT (([⟨d.space⟩, ⟨space⟩] : List U64)) [.int .u64 (d.space : Int), .int .u64 (space : Int)] rfl rfl rfl rfl (by decide) ?_
          intro b37 w hw hT
          refine ⟨hT.old, ?_⟩
          have hS := hS1.merge hT
          try simp only [List.cons_append, List.nil_append] at hS
          refine ML.one rfl rfl rfl (opW.call (sum_ok _ _ ([⟨d.block⟩, ⟨cost⟩] : List U64) (hS.sl (by first | exact .here | exact .there (.here) | exact .there (.there (.here)) | exact .there (.there (.there (.here))) | exact .there (.there (.there (.there (.here)))) | exact .there (.there (.there (.there (.there (.here))))) | exact .there (.there (.there (.there (.there (.there (.here)))))) | exact .there (.there (.there (.there (.there (.there (.there (.here))))))) | exact .there (.there (.there (.there (.there (.there (.there (.there (.here)))))))) | exact .there (.there (.there (.there (.there (.there (.there (.there (.there (.here))))))))) | exact .there (.there (.there (.there (.there (.there (.there (.there (.there (.there (.here)))))))))) | exact .there (.there (.there (.there (.there (.there (.there (.there (.there (.there (.there (.here))))))))))) | exact .there (.there (.there (.there (.there (.there (.there (.there (.there (.there (.there (.there (.here))))))))))))))) rfl ?_)
          rintro _ w ⟨rfl, hw⟩; replace hT := hT.bel hw
          rw [sumsH_two _ _ hok.1]
          refine ⟨hT.old, ?_⟩
          have hS := hS1.merge hT
          try simp only [List.cons_append, List.nil_append] at hS
          refine ML.one rfl rfl rfl (opW.call (sum_ok _ _ ([⟨d.space⟩, ⟨space⟩] : List U64) (hS.sl (by first | exact .here | exact .there (.here) | exact .there (.there (.here)) | exact .there (.there (.there (.here))) | exact .there (.there (.there (.there (.here)))) | exact .there (.there (.there (.there (.there (.here))))) | exact .there (.there (.there (.there (.there (.there (.here)))))) | exact .there (.there (.there (.there (.there (.there (.there (.here))))))) | exact .there (.there (.there (.there (.there (.there (.there (.there (.here)))))))) | exact .there (.there (.there (.there (.there (.there (.there (.there (.there (.here))))))))) | exact .there (.there (.there (.there (.there (.there (.there (.there (.there (.there (.here)))))))))) | exact .there (.there (.there (.there (.there (.there (.there (.there (.there (.there (.there (.here))))))))))) | exact .there (.there (.there (.there (.there (.there (.there (.there (.there (.there (.there (.there (.here))))))))))))))) rfl ?_)
          rintro _ w ⟨rfl, hw⟩; replace hT := hT.bel hw
          rw [sumsH_two _ _ hok.2.1]
          refine ⟨hT.old, ?_⟩
          have hS := hS1.merge hT
          try simp only [List.cons_append, List.nil_append] at hS
          refine ML.put1 rfl rfl rfl rfl (opW.nilCheckB rfl ?_)
          refine ML.put1 rfl rfl rfl rfl (opW.fieldAddrB rfl ?_)
          refine ML.put0 rfl rfl rfl (opW.storeF (sz := 1) hS rfl rfl (by first | exact .here | exact .there (.here) | exact .there (.there (.here)) | exact .there (.there (.there (.here))) | exact .there (.there (.there (.there (.here)))) | exact .there (.there (.there (.there (.there (.here))))) | exact .there (.there (.there (.there (.there (.there (.here)))))) | exact .there (.there (.there (.there (.there (.there (.there (.here))))))) | exact .there (.there (.there (.there (.there (.there (.there (.there (.here)))))))) | exact .there (.there (.there (.there (.there (.there (.there (.there (.there (.here))))))))) | exact .there (.there (.there (.there (.there (.there (.there (.there (.there (.there (.here)))))))))) | exact .there (.there (.there (.there (.there (.there (.there (.there (.there (.there (.there (.here))))))))))) | exact .there (.there (.there (.there (.there (.there (.there (.there (.there (.there (.there (.there (.here))))))))))))) rfl (by rw [Enc.size_eq]; decide) (one_int _ _) (TrS.set_block _ _) ?_)
          intro w hS; replace hS := hS _ (by first | exact .here | exact .there (.here) | exact .there (.there (.here)) | exact .there (.there (.there (.here))) | exact .there (.there (.there (.there (.here)))) | exact .there (.there (.there (.there (.there (.here))))) | exact .there (.there (.there (.there (.there (.there (.here)))))) | exact .there (.there (.there (.there (.there (.there (.there (.here))))))) | exact .there (.there (.there (.there (.there (.there (.there (.there (.here)))))))) | exact .there (.there (.there (.there (.there (.there (.there (.there (.there (.here))))))))) | exact .there (.there (.there (.there (.there (.there (.there (.there (.there (.there (.here)))))))))) | exact .there (.there (.there (.there (.there (.there (.there (.there (.there (.there (.there (.here))))))))))) | exact .there (.there (.there (.there (.there (.there (.there (.there (.there (.there (.there (.there (.here)))))))))))))
          refine ML.put1 rfl rfl rfl rfl (opW.nilCheckB rfl ?_)
          refine ML.put1 rfl rfl rfl rfl (opW.fieldAddrB rfl ?_)
          refine ML.put0 rfl rfl rfl (opW.storeF (sz := 1) hS rfl rfl (by first | exact .here | exact .there (.here) | exact .there (.there (.here)) | exact .there (.there (.there (.here))) | exact .there (.there (.there (.there (.here)))) | exact .there (.there (.there (.there (.there (.here))))) | exact .there (.there (.there (.there (.there (.there (.here)))))) | exact .there (.there (.there (.there (.there (.there (.there (.here))))))) | exact .there (.there (.there (.there (.there (.there (.there (.there (.here)))))))) | exact .there (.there (.there (.there (.there (.there (.there (.there (.there (.here))))))))) | exact .there (.there (.there (.there (.there (.there (.there (.there (.there (.there (.here)))))))))) | exact .there (.there (.there (.there (.there (.there (.there (.there (.there (.there (.there (.here))))))))))) | exact .there (.there (.there (.there (.there (.there (.there (.there (.there (.there (.there (.there (.here))))))))))))) rfl (by rw [Enc.size_eq]; decide) (one_int _ _) (TrS.set_space _ _) ?_)
          intro w hS; replace hS := hS _ (by first | exact .here | exact .there (.here) | exact .there (.there (.here)) | exact .there (.there (.there (.here))) | exact .there (.there (.there (.there (.here)))) | exact .there (.there (.there (.there (.there (.here))))) | exact .there (.there (.there (.there (.there (.there (.here)))))) | exact .there (.there (.there (.there (.there (.there (.there (.here))))))) | exact .there (.there (.there (.there (.there (.there (.there (.there (.here)))))))) | exact .there (.there (.there (.there (.there (.there (.there (.there (.there (.here))))))))) | exact .there (.there (.there (.there (.there (.there (.there (.there (.there (.there (.here)))))))))) | exact .there (.there (.there (.there (.there (.there (.there (.there (.there (.there (.there (.here))))))))))) | exact .there (.there (.there (.there (.there (.there (.there (.there (.there (.there (.there (.there (.here)))))))))))))
          refine ML.nil ?_
          refine thenQ_n ?_
          exact ⟨⟨rfl, rfl, rfl, trivial⟩, hS.sub (by repeat (first | with_reducible exact List.nil_sublist _ | with_reducible exact List.Sublist.refl _ | with_reducible refine List.Sublist.cons₂ _ ?_ | with_reducible refine List.Sublist.cons _ ?_))⟩
      · refine opW.buildSl hT (([⟨d.space⟩, ⟨space⟩] : List U64)) [.int .u64 (d.space : Int), .int .u64 (space : Int)] rfl rfl rfl rfl (by decide) ?_
        intro b37 w hw hT
        refine ⟨hT.old, ?_⟩
        have hS := hS1.merge hT
        try simp only [List.cons_append, List.nil_append] at hS
        refine ML.one rfl rfl rfl (opW.buildSl hT (([⟨d.block⟩, ⟨cost⟩] : List U64)) [.int .u64 (d.block : Int), .int .u64 (cost : Int)] rfl rfl rfl rfl (by decide) ?_)
        intro b30 w hw hT
        refine ⟨hT.old, ?_⟩
        have hS := hS1.merge hT
        try simp only [List.cons_append, List.nil_append] at hS
        refine ML.one rfl rfl rfl (opW.call (sum_ok _ _ ([⟨d.block⟩, ⟨cost⟩] : List U64) (hS.sl (by first | exact .here | exact .there (.here) | exact .there (.there (.here)) | exact .there (.there (.there (.here))) | exact .there (.there (.there (.there (.here)))) | exact .there (.there (.there (.there (.there (.here))))) | exact .there (.there (.there (.there (.there (.there (.here)))))) | exact .there (.there (.there (.there (.there (.there (.there (.here))))))) | exact .there (.there (.there (.there (.there (.there (.there (.there (.here)))))))) | exact .there (.there (.there (.there (.there (.there (.there (.there (.there (.here))))))))) | exact .there (.there (.there (.there (.there (.there (.there (.there (.there (.there (.here)))))))))) | exact .there (.there (.there (.there (.there (.there (.there (.there (.there (.there (.there (.here))))))))))) | exact .there (.there (.there (.there (.there (.there (.there (.there (.there (.there (.there (.there (.here))))))))))))))) rfl ?_)
        rintro _ w ⟨rfl, hw⟩; replace hT := hT.bel hw
        rw [sumsH_two _ _ hok.1]
        refine ⟨hT.old, ?_⟩
        have hS := hS1.merge hT
        try simp only [List.cons_append, List.nil_append] at hS
        refine ML.one rfl rfl rfl (opW.call (sum_ok _ _ ([⟨d.space⟩, ⟨space⟩] : List U64) (hS.sl (by first | exact .here | exact .there (.here) | exact .there (.there (.here)) | exact .there (.there (.there (.here))) | exact .there (.there (.there (.there (.here)))) | exact .there (.there (.there (.there (.there (.here))))) | exact .there (.there (.there (.there (.there (.there (.here)))))) | exact .there (.there (.there (.there (.there (.there (.there (.here))))))) | exact .there (.there (.there (.there (.there (.there (.there (.there (.here)))))))) | exact .there (.there (.there (.there (.there (.there (.there (.there (.there (.here))))))))) | exact .there (.there (.there (.there (.there (.there (.there (.there (.there (.there (.here)))))))))) | exact .there (.there (.there (.there (.there (.there (.there (.there (.there (.there (.there (.here))))))))))) | exact .there (.there (.there (.there (.there (.there (.there (.there (.there (.there (.there (.there (.here))))))))))))))) rfl ?_)
        rintro _ w ⟨rfl, hw⟩; replace hT := hT.bel hw
        rw [sumsH_two _ _ hok.2.1]
        refine ⟨hT.old, ?_⟩
        have hS := hS1.merge hT
        try simp only [List.cons_append, List.nil_append] at hS
        refine ML.put1 rfl rfl rfl rfl (opW.nilCheckB rfl ?_)
        refine ML.put1 rfl rfl rfl rfl (opW.fieldAddrB rfl ?_)
        refine ML.put0 rfl rfl rfl (opW.storeF (sz := 1) hS rfl rfl (by first | exact .here | exact .there (.here) | exact .there (.there (.here)) | exact .there (.there (.there (.here))) | exact .there (.there (.there (.there (.here)))) | exact .there (.there (.there (.there (.there (.here))))) | exact .there (.there (.there (.there (.there (.there (.here)))))) | exact .there (.there (.there (.there (.there (.there (.there (.here))))))) | exact .there (.there (.there (.there (.there (.there (.there (.there (.here)))))))) | exact .there (.there (.there (.there (.there (.there (.there (.there (.there (.here))))))))) | exact .there (.there (.there (.there (.there (.there (.there (.there (.there (.there (.here)))))))))) | exact .there (.there (.there (.there (.there (.there (.there (.there (.there (.there (.there (.here))))))))))) | exact .there (.there (.there (.there (.there (.there (.there (.there (.there (.there (.there (.there (.here))))))))))))) rfl (by rw [Enc.size_eq]; decide) (one_int _ _) (TrS.set_block _ _) ?_)
        intro w hS; replace hS := hS _ (by first | exact .here | exact .there (.here) | exact .there (.there (.here)) | exact .there (.there (.there (.here))) | exact .there (.there (.there (.there (.here)))) | exact .there (.there (.there (.there (.there (.here))))) | exact .there (.there (.there (.there (.there (.there (.here)))))) | exact .there (.there (.there (.there (.there (.there (.there (.here))))))) | exact .there (.there (.there (.there (.there (.there (.there (.there (.here)))))))) | exact .there (.there (.there (.there (.there (.there (.there (.there (.there (.here))))))))) | exact .there (.there (.there (.there (.there (.there (.there (.there (.there (.there (.here)))))))))) | exact .there (.there (.there (.there (.there (.there (.there (.there (.there (.there (.there (.here))))))))))) | exact .there (.there (.there (.there (.there (.there (.there (.there (.there (.there (.there (.there (.here)))))))))))))
        refine ML.put1 rfl rfl rfl rfl (opW.nilCheckB rfl ?_)
        refine ML.put1 rfl rfl rfl rfl (opW.fieldAddrB rfl ?_)
        refine ML.put0 rfl rfl rfl (opW.storeF (sz := 1) hS rfl rfl (by first | exact .here | exact .there (.here) | exact .there (.there (.here)) | exact .there (.there (.there (.here))) | exact .there (.there (.there (.there (.here)))) | exact .there (.there (.there (.there (.there (.here))))) | exact .there (.there (.there (.there (.there (.there (.here)))))) | exact .there (.there (.there (.there (.there (.there (.there (.here))))))) | exact .there (.there (.there (.there (.there (.there (.there (.there (.here)))))))) | exact .there (.there (.there (.there (.there (.there (.there (.there (.there (.here))))))))) | exact .there (.there (.there (.there (.there (.there (.there (.there (.there (.there (.here)))))))))) | exact .there (.there (.there (.there (.there (.there (.there (.there (.there (.there (.there (.here))))))))))) | exact .there (.there (.there (.there (.there (.there (.there (.there (.there (.there (.there (.there (.here))))))))))))) rfl (by rw [Enc.size_eq]; decide) (one_int _ _) (TrS.set_space _ _) ?_)
        intro w hS; replace hS := hS _ (by first | exact .here | exact .there (.here) | exact .there (.there (.here)) | exact .there (.there (.there (.here))) | exact .there (.there (.there (.there (.here)))) | exact .there (.there (.there (.there (.there (.here))))) | exact .there (.there (.there (.there (.there (.there (.here)))))) | exact .there (.there (.there (.there (.there (.there (.there (.here))))))) | exact .there (.there (.there (.there (.there (.there (.there (.there (.here)))))))) | exact .there (.there (.there (.there (.there (.there (.there (.there (.there (.here))))))))) | exact .there (.there (.there (.there (.there (.there (.there (.there (.there (.there (.here)))))))))) | exact .there (.there (.there (.there (.there (.there (.there (.there (.there (.there (.there (.here))))))))))) | exact .there (.there (.there (.there (.there (.there (.there (.there (.there (.there (.there (.there (.here)))))))))))))
        refine ML.nil ?_
        refine thenQ_n ?_
        exact ⟨⟨rfl, rfl, rfl, trivial⟩, hS.sub (by repeat (first | with_reducible exact List.nil_sublist _ | with_reducible exact List.Sublist.refl _ | with_reducible refine List.Sublist.cons₂ _ ?_ | with_reducible refine List.Sublist.cons _ ?_))⟩
    ·
      rintro f w ⟨hfit, hS⟩
      refine WC.fits _ hfit (fun g => ?_)
      clear hfit
      refine WC.seq (fun K6 hK6 => ?_)
      refine WC.region ?_
      refine WL.op rfl (opW.makeMap Key nv hS ?_)
      intro r2 w _ hS
      refine WL.op rfl (opW.assignV (v := .map (some r2)) rfl ?_)
      refine WL.nil ?_
      refine thenQ_n (hK6 _ _ ?_)
      refine WC.seq (fun K7 hK7 => ?_)
      refine WC.seq (fun K8 hK8 => ?_)
      refine WC.region ?_
      refine WL.op rfl (opW.moveV (v := v) rfl ?_)
      refine WL.op rfl (opW.lenV rfl ((hk _ (hS.sub (by repeat (first | with_reducible exact List.nil_sublist _ | with_reducible exact List.Sublist.refl _ | with_reducible refine List.Sublist.cons₂ _ ?_ | with_reducible refine List.Sublist.cons _ ?_))))) ?_)
      refine WL.op rfl (opW.moveI rfl ?_)
      refine WL.nil ?_
      refine thenQ_n (hK8 _ _ ?_)
      refine WC.block ?_
      refine WC.loop (fun q f w => ∃ (k : Nat) (now : List (Key × Nat)), Fits [(0, .pointer (some ⟨p, 0, none⟩)), (1, .int .u64 (cost : Int)), (10, .map (some r2)), (44, v), (45, .int .i64 (keys.length : Int)), (46, .int .i64 (k : Int))] f ∧ St wb (mapE r2 nv now :: blkE p (Enc.enc (TrS.mk d.lim (sumH d.block cost) (sumH d.space space) (some d.r))) 44 :: mapE d.r nv d.kvs :: S) w ∧ NowIs d cost (keys.take k) now ∧ k ≤ keys.length ∧ q = keys.length - k) (keys.length) ?_ ?_
      ·
        exact ⟨0, [], ⟨rfl, rfl, rfl, rfl, rfl, rfl, trivial⟩, hS, NowIs.nil _ _, Nat.zero_le _, rfl⟩
      ·
        rintro q f w ⟨k, now, hfit, hS, hnow, hk0, hm⟩
        refine WC.fits _ hfit (fun g => ?_)
        clear hfit
        refine WC.seq (fun K9 hK9 => ?_)
        refine WC.region ?_
        refine WL.op rfl (opW.lss rfl rfl ?_)
        refine WL.nil ?_
        refine thenQ_n (hK9 _ _ ?_)
        refine WC.seq (fun K10 hK10 => ?_)
        refine WC.cond _ rfl (fun hc1 => ?_) (fun hc1 => ?_)
        ·
          have hr1 := hc1
          try simp only [decide_eq_true_eq, decide_eq_false_iff_not, Bool.and_eq_true, Bool.or_eq_true, Bool.and_eq_false_iff, Bool.or_eq_false_iff, Bool.not_eq_true', Bool.not_eq_false', Int.not_lt, Int.not_le] at hc1
          have hkl : k < keys.length := by omega
          have hle := (hk _ (hS.sub (by repeat (first | with_reducible exact List.nil_sublist _ | with_reducible exact List.Sublist.refl _ | with_reducible refine List.Sublist.cons₂ _ ?_ | with_reducible refine List.Sublist.cons _ ?_)))).le
          simp only [maxLen] at hle
          refine WC.skip ?_
          refine thenQ_n (hK10 _ _ ?_)
          refine WC.seq (fun K11 hK11 => ?_)
          refine WC.block ?_
          refine WC.seq (fun K12 hK12 => ?_)
          refine WC.region ?_
          refine WL.op rfl (opW.idxV rfl ((hk _ (hS.sub (by repeat (first | with_reducible exact List.nil_sublist _ | with_reducible exact List.Sublist.refl _ | with_reducible refine List.Sublist.cons₂ _ ?_ | with_reducible refine List.Sublist.cons _ ?_))))) rfl (by omega) ?_)
          refine WL.op rfl (opW.loadV rfl (((hk _ (hS.sub (by repeat (first | with_reducible exact List.nil_sublist _ | with_reducible exact List.Sublist.refl _ | with_reducible refine List.Sublist.cons₂ _ ?_ | with_reducible refine List.Sublist.cons _ ?_)))).isPt hkl).ldA (Enc.size_eq keys[k])) ?_)
          refine WL.op rfl (opW.allocA hS ?_)
          intro b12 w _ hS
          refine WL.op0 (opW.storeE hS rfl rfl (by first | exact .here | exact .there (.here) | exact .there (.there (.here)) | exact .there (.there (.there (.here))) | exact .there (.there (.there (.there (.here)))) | exact .there (.there (.there (.there (.there (.here))))) | exact .there (.there (.there (.there (.there (.there (.here)))))) | exact .there (.there (.there (.there (.there (.there (.there (.here))))))) | exact .there (.there (.there (.there (.there (.there (.there (.there (.here)))))))) | exact .there (.there (.there (.there (.there (.there (.there (.there (.there (.here))))))))) | exact .there (.there (.there (.there (.there (.there (.there (.there (.there (.there (.here)))))))))) | exact .there (.there (.there (.there (.there (.there (.there (.there (.there (.there (.there (.here))))))))))) | exact .there (.there (.there (.there (.there (.there (.there (.there (.there (.there (.there (.there (.here))))))))))))) (by first | rfl | exact Enc.size_eq _) ?_)
          intro w hS; replace hS := hS _ (by first | exact .here | exact .there (.here) | exact .there (.there (.here)) | exact .there (.there (.there (.here))) | exact .there (.there (.there (.there (.here)))) | exact .there (.there (.there (.there (.there (.here))))) | exact .there (.there (.there (.there (.there (.there (.here)))))) | exact .there (.there (.there (.there (.there (.there (.there (.here))))))) | exact .there (.there (.there (.there (.there (.there (.there (.there (.here)))))))) | exact .there (.there (.there (.there (.there (.there (.there (.there (.there (.here))))))))) | exact .there (.there (.there (.there (.there (.there (.there (.there (.there (.there (.here)))))))))) | exact .there (.there (.there (.there (.there (.there (.there (.there (.there (.there (.there (.here))))))))))) | exact .there (.there (.there (.there (.there (.there (.there (.there (.there (.there (.there (.there (.here)))))))))))))
          refine WL.nil ?_
          refine thenQ_n (hK12 _ _ ?_)
          refine WC.draw 11 (.look 0 (.look 1 (.look 2 (.look 3 (.look 4 (.look 5 (.look 6 (.look 7 (.look 8 (.one 9 (.one 10 (.one 11 .nil)))))))))))) (by kernel_rfl) (fun _ _ _ h => h) (fun w1 hw1 => ?_)
          replace hS := hS.bel hw1
          have hS1 := hS
          have hT := St.start w1
          refine ML.look rfl rfl rfl (fun w hw => (by have hS := hS1.bel hw; exact opW.moveV (v := .map (some r2)) rfl ⟨rfl, rfl⟩)) ?_
          refine ML.look rfl rfl rfl (fun w hw => (by have hS := hS1.bel hw; exact opW.loadV rfl (hS.ldA (cs := Enc.enc keys[k]) (by first | exact .here | exact .there (.here) | exact .there (.there (.here)) | exact .there (.there (.there (.here))) | exact .there (.there (.there (.there (.here)))) | exact .there (.there (.there (.there (.there (.here))))) | exact .there (.there (.there (.there (.there (.there (.here)))))) | exact .there (.there (.there (.there (.there (.there (.there (.here))))))) | exact .there (.there (.there (.there (.there (.there (.there (.there (.here)))))))) | exact .there (.there (.there (.there (.there (.there (.there (.there (.there (.here))))))))) | exact .there (.there (.there (.there (.there (.there (.there (.there (.there (.there (.here)))))))))) | exact .there (.there (.there (.there (.there (.there (.there (.there (.there (.there (.there (.here))))))))))) | exact .there (.there (.there (.there (.there (.there (.there (.there (.there (.there (.there (.there (.here))))))))))))) (Enc.size_eq _)) ⟨rfl, rfl⟩)) ?_
          refine ML.look rfl rfl rfl (fun w hw => (by have hS := hS1.bel hw; exact opW.moveV (v := .pointer (some ⟨p, 0, none⟩)) rfl ⟨rfl, rfl⟩)) ?_
          refine ML.look rfl rfl rfl (fun w hw => (by have hS := hS1.bel hw; exact opW.nilCheckB rfl ⟨rfl, rfl⟩)) ?_
          refine ML.look rfl rfl rfl (fun w hw => (by have hS := hS1.bel hw; exact opW.fieldAddrB rfl ⟨rfl, rfl⟩)) ?_
          refine ML.look rfl rfl rfl (fun w hw => (by have hS := hS1.bel hw; exact opW.loadV rfl (hS.ld1 (by first | exact .here | exact .there (.here) | exact .there (.there (.here)) | exact .there (.there (.there (.here))) | exact .there (.there (.there (.there (.here)))) | exact .there (.there (.there (.there (.there (.here))))) | exact .there (.there (.there (.there (.there (.there (.here)))))) | exact .there (.there (.there (.there (.there (.there (.there (.here))))))) | exact .there (.there (.there (.there (.there (.there (.there (.there (.here)))))))) | exact .there (.there (.there (.there (.there (.there (.there (.there (.there (.here))))))))) | exact .there (.there (.there (.there (.there (.there (.there (.there (.there (.there (.here)))))))))) | exact .there (.there (.there (.there (.there (.there (.there (.there (.there (.there (.there (.here))))))))))) | exact .there (.there (.there (.there (.there (.there (.there (.there (.there (.there (.there (.there (.here))))))))))))) (TrS.at_of _)) ⟨rfl, rfl⟩)) ?_
          refine ML.look rfl rfl rfl (fun w hw => (by have hS := hS1.bel hw; exact opW.loadV rfl (hS.ldA (cs := Enc.enc keys[k]) (by first | exact .here | exact .there (.here) | exact .there (.there (.here)) | exact .there (.there (.there (.here))) | exact .there (.there (.there (.there (.here)))) | exact .there (.there (.there (.there (.there (.here))))) | exact .there (.there (.there (.there (.there (.there (.here)))))) | exact .there (.there (.there (.there (.there (.there (.there (.here))))))) | exact .there (.there (.there (.there (.there (.there (.there (.there (.here)))))))) | exact .there (.there (.there (.there (.there (.there (.there (.there (.there (.here))))))))) | exact .there (.there (.there (.there (.there (.there (.there (.there (.there (.there (.here)))))))))) | exact .there (.there (.there (.there (.there (.there (.there (.there (.there (.there (.there (.here))))))))))) | exact .there (.there (.there (.there (.there (.there (.there (.there (.there (.there (.there (.there (.here))))))))))))) (Enc.size_eq _)) ⟨rfl, rfl⟩)) ?_
          refine ML.look rfl rfl rfl (fun w hw => (by have hS := hS1.bel hw; exact opW.lookupZ (κ := Key) (k := keys[k]) (vv := nv) (z0 := 0) (u := d.ofK keys[k]) inferInstance (hS.map (r := d.r) (vv := nv) (kvs := d.kvs) (by first | exact .here | exact .there (.here) | exact .there (.there (.here)) | exact .there (.there (.there (.here))) | exact .there (.there (.there (.there (.here)))) | exact .there (.there (.there (.there (.there (.here))))) | exact .there (.there (.there (.there (.there (.there (.here)))))) | exact .there (.there (.there (.there (.there (.there (.there (.here))))))) | exact .there (.there (.there (.there (.there (.there (.there (.there (.here)))))))) | exact .there (.there (.there (.there (.there (.there (.there (.there (.there (.here))))))))) | exact .there (.there (.there (.there (.there (.there (.there (.there (.there (.there (.here)))))))))) | exact .there (.there (.there (.there (.there (.there (.there (.there (.there (.there (.there (.here))))))))))) | exact .there (.there (.there (.there (.there (.there (.there (.there (.there (.there (.there (.there (.here)))))))))))))) rfl rfl rfl ⟨rfl, rfl⟩)) ?_
          refine ML.look rfl rfl rfl (fun w hw => (by have hS := hS1.bel hw; exact opW.moveI rfl ⟨rfl, rfl⟩)) ?_
          refine ML.one rfl rfl rfl (opW.buildSl hT (([⟨d.ofK keys[k]⟩, ⟨cost⟩] : List U64)) [.int .u64 (d.ofK keys[k] : Int), .int .u64 (cost : Int)] rfl rfl rfl rfl (by decide) ?_)
          intro b59 w hw hT
          refine ⟨hT.old, ?_⟩
          have hS := hS1.merge hT
          try simp only [List.cons_append, List.nil_append] at hS
          refine ML.one rfl rfl rfl (opW.call (sum_ok _ _ ([⟨d.ofK keys[k]⟩, ⟨cost⟩] : List U64) (hS.sl (by first | exact .here | exact .there (.here) | exact .there (.there (.here)) | exact .there (.there (.there (.here))) | exact .there (.there (.there (.there (.here)))) | exact .there (.there (.there (.there (.there (.here))))) | exact .there (.there (.there (.there (.there (.there (.here)))))) | exact .there (.there (.there (.there (.there (.there (.there (.here))))))) | exact .there (.there (.there (.there (.there (.there (.there (.there (.here)))))))) | exact .there (.there (.there (.there (.there (.there (.there (.there (.there (.here))))))))) | exact .there (.there (.there (.there (.there (.there (.there (.there (.there (.there (.here)))))))))) | exact .there (.there (.there (.there (.there (.there (.there (.there (.there (.there (.there (.here))))))))))) | exact .there (.there (.there (.there (.there (.there (.there (.there (.there (.there (.there (.there (.here))))))))))))))) rfl ?_)
          rintro _ w ⟨rfl, hw⟩; replace hT := hT.bel hw
          rw [sumsH_two _ _ (hok.2.2 _)]
          refine ⟨hT.old, ?_⟩
          have hS := hS1.merge hT
          try simp only [List.cons_append, List.nil_append] at hS
          refine ML.put0 rfl rfl rfl (opW.mapUpdate (κ := Key) (k := keys[k]) (v := sumH (d.ofK keys[k]) cost) (vv := nv) (kvs := now) hS (by first | exact .here | exact .there (.here) | exact .there (.there (.here)) | exact .there (.there (.there (.here))) | exact .there (.there (.there (.there (.here)))) | exact .there (.there (.there (.there (.there (.here))))) | exact .there (.there (.there (.there (.there (.there (.here)))))) | exact .there (.there (.there (.there (.there (.there (.there (.here))))))) | exact .there (.there (.there (.there (.there (.there (.there (.there (.here)))))))) | exact .there (.there (.there (.there (.there (.there (.there (.there (.there (.here))))))))) | exact .there (.there (.there (.there (.there (.there (.there (.there (.there (.there (.here)))))))))) | exact .there (.there (.there (.there (.there (.there (.there (.there (.there (.there (.there (.here))))))))))) | exact .there (.there (.there (.there (.there (.there (.there (.there (.there (.there (.there (.there (.here))))))))))))) rfl rfl rfl ?_)
          intro w hS; replace hS := hS _ (by first | exact .here | exact .there (.here) | exact .there (.there (.here)) | exact .there (.there (.there (.here))) | exact .there (.there (.there (.there (.here)))) | exact .there (.there (.there (.there (.there (.here))))) | exact .there (.there (.there (.there (.there (.there (.here)))))) | exact .there (.there (.there (.there (.there (.there (.there (.here))))))) | exact .there (.there (.there (.there (.there (.there (.there (.there (.here)))))))) | exact .there (.there (.there (.there (.there (.there (.there (.there (.there (.here))))))))) | exact .there (.there (.there (.there (.there (.there (.there (.there (.there (.there (.here)))))))))) | exact .there (.there (.there (.there (.there (.there (.there (.there (.there (.there (.there (.here))))))))))) | exact .there (.there (.there (.there (.there (.there (.there (.there (.there (.there (.there (.there (.here)))))))))))))
          refine ML.nil ?_
          refine blockQ_n ?_
          refine thenQ_n (hK11 _ _ ?_)
          refine WC.region ?_
          refine WL.op rfl (opW.add rfl rfl (wrap_i64 (by omega)) ?_)
          refine WL.op rfl (opW.moveI rfl ?_)
          refine WL.nil ?_
          refine thenQ_n ?_
          exact ⟨keys.length - (k + 1), by omega, k + 1, _, ⟨rfl, rfl, rfl, rfl, rfl, congrArg (Value.int .i64) (by omega), trivial⟩, hS.sub (by repeat (first | with_reducible exact List.nil_sublist _ | with_reducible exact List.Sublist.refl _ | with_reducible refine List.Sublist.cons₂ _ ?_ | with_reducible refine List.Sublist.cons _ ?_)), hnow.step hkl, by omega, rfl⟩
        ·
          have hr1 := hc1
          try simp only [decide_eq_true_eq, decide_eq_false_iff_not, Bool.and_eq_true, Bool.or_eq_true, Bool.and_eq_false_iff, Bool.or_eq_false_iff, Bool.not_eq_true', Bool.not_eq_false', Int.not_lt, Int.not_le] at hc1
          have hkk : k = keys.length := by omega
          subst hkk
          rw [List.take_length] at hnow
          refine WC.exit ?_
          refine thenQ_e ?_
          refine thenQ_e ?_
          refine blockQ_hit ?_
          refine thenQ_n (hK7 _ _ ?_)
          refine WC.seq (fun K13 hK13 => ?_)
          refine WC.seq (fun K14 hK14 => ?_)
          refine WC.region ?_
          refine WL.op rfl (opW.moveV (v := .map (some r2)) rfl ?_)
          refine WL.op rfl (opW.range (κ := Key) (ν := Nat) (vv := nv) (kvs := now) hS (by first | exact .here | exact .there (.here) | exact .there (.there (.here)) | exact .there (.there (.there (.here))) | exact .there (.there (.there (.there (.here)))) | exact .there (.there (.there (.there (.there (.here))))) | exact .there (.there (.there (.there (.there (.there (.here)))))) | exact .there (.there (.there (.there (.there (.there (.there (.here))))))) | exact .there (.there (.there (.there (.there (.there (.there (.there (.here)))))))) | exact .there (.there (.there (.there (.there (.there (.there (.there (.there (.here))))))))) | exact .there (.there (.there (.there (.there (.there (.there (.there (.there (.there (.here)))))))))) | exact .there (.there (.there (.there (.there (.there (.there (.there (.there (.there (.there (.here))))))))))) | exact .there (.there (.there (.there (.there (.there (.there (.there (.there (.there (.there (.there (.here))))))))))))) rfl ?_)
          intro it w hS; replace hS := hS _ (by first | exact .here | exact .there (.here) | exact .there (.there (.here)) | exact .there (.there (.there (.here))) | exact .there (.there (.there (.there (.here)))) | exact .there (.there (.there (.there (.there (.here))))) | exact .there (.there (.there (.there (.there (.there (.here)))))) | exact .there (.there (.there (.there (.there (.there (.there (.here))))))) | exact .there (.there (.there (.there (.there (.there (.there (.there (.here)))))))) | exact .there (.there (.there (.there (.there (.there (.there (.there (.there (.here))))))))) | exact .there (.there (.there (.there (.there (.there (.there (.there (.there (.there (.here)))))))))) | exact .there (.there (.there (.there (.there (.there (.there (.there (.there (.there (.there (.here))))))))))) | exact .there (.there (.there (.there (.there (.there (.there (.there (.there (.there (.there (.there (.here)))))))))))))
          refine WL.nil ?_
          refine thenQ_n (hK14 _ _ ?_)
          refine WC.block ?_
          refine WC.loop (fun q f w => ∃ (is : List Nat) (cur : List (Key × Nat)), Fits [(0, .pointer (some ⟨p, 0, none⟩)), (63, .pointer (some ⟨it, 0, none⟩))] f ∧ St wb (rngE it r2 nv now is :: blkE p (Enc.enc (TrS.mk d.lim (sumH d.block cost) (sumH d.space space) (some d.r))) 44 :: mapE d.r nv cur :: S) w ∧ CurIs d cost now is cur ∧ q = now.length - is.length) (now.length) ?_ ?_
          ·
            exact ⟨[], d.kvs, ⟨rfl, rfl, trivial⟩, hS, CurIs.nil _ _ _, rfl⟩
          ·
            rintro q f w ⟨is, cur, hfit, hS, hcur, hm⟩
            refine WC.fits _ hfit (fun g => ?_)
            clear hfit
            refine WC.seq (fun K15 hK15 => ?_)
            refine WC.region ?_
            refine WL.op rfl (opW.nextV (κ := Key) (ν := Nat) (vv := nv) hS (by first | exact .here | exact .there (.here) | exact .there (.there (.here)) | exact .there (.there (.there (.here))) | exact .there (.there (.there (.there (.here)))) | exact .there (.there (.there (.there (.there (.here))))) | exact .there (.there (.there (.there (.there (.there (.here)))))) | exact .there (.there (.there (.there (.there (.there (.there (.here))))))) | exact .there (.there (.there (.there (.there (.there (.there (.there (.here)))))))) | exact .there (.there (.there (.there (.there (.there (.there (.there (.there (.here))))))))) | exact .there (.there (.there (.there (.there (.there (.there (.there (.there (.there (.here)))))))))) | exact .there (.there (.there (.there (.there (.there (.there (.there (.there (.there (.there (.here))))))))))) | exact .there (.there (.there (.there (.there (.there (.there (.there (.there (.there (.there (.there (.here))))))))))))) rfl ?_)
            intro bb vs is' w h0 hF hTT hS; replace hS := hS _ (by first | exact .here | exact .there (.here) | exact .there (.there (.here)) | exact .there (.there (.there (.here))) | exact .there (.there (.there (.there (.here)))) | exact .there (.there (.there (.there (.there (.here))))) | exact .there (.there (.there (.there (.there (.there (.here)))))) | exact .there (.there (.there (.there (.there (.there (.there (.here))))))) | exact .there (.there (.there (.there (.there (.there (.there (.there (.here)))))))) | exact .there (.there (.there (.there (.there (.there (.there (.there (.there (.here))))))))) | exact .there (.there (.there (.there (.there (.there (.there (.there (.there (.there (.here)))))))))) | exact .there (.there (.there (.there (.there (.there (.there (.there (.there (.there (.there (.here))))))))))) | exact .there (.there (.there (.there (.there (.there (.there (.there (.there (.there (.there (.there (.here)))))))))))))
            refine WL.op rfl (opW.extract rfl h0 ?_)
            refine WL.nil ?_
            refine thenQ_n (hK15 _ _ ?_)
            refine WC.seq (fun K16 hK16 => ?_)
            refine WC.cond _ rfl (fun hc2 => ?_) (fun hc2 => ?_)
            ·
              have hr2 := hc2
              try simp only [decide_eq_true_eq, decide_eq_false_iff_not, Bool.and_eq_true, Bool.or_eq_true, Bool.and_eq_false_iff, Bool.or_eq_false_iff, Bool.not_eq_true', Bool.not_eq_false', Int.not_lt, Int.not_le] at hc2
              obtain ⟨i, hi, hni, hlt, rfl⟩ := hTT hr2
              have hRM := hS.rng (vv := nv) (kvs := now) (by first | exact .here | exact .there (.here) | exact .there (.there (.here)) | exact .there (.there (.there (.here))) | exact .there (.there (.there (.there (.here)))) | exact .there (.there (.there (.there (.there (.here))))) | exact .there (.there (.there (.there (.there (.there (.here)))))) | exact .there (.there (.there (.there (.there (.there (.there (.here))))))) | exact .there (.there (.there (.there (.there (.there (.there (.there (.here)))))))) | exact .there (.there (.there (.there (.there (.there (.there (.there (.there (.here))))))))) | exact .there (.there (.there (.there (.there (.there (.there (.there (.there (.there (.here)))))))))) | exact .there (.there (.there (.there (.there (.there (.there (.there (.there (.there (.there (.here))))))))))) | exact .there (.there (.there (.there (.there (.there (.there (.there (.there (.there (.there (.there (.here)))))))))))))
              obtain ⟨_, _, _, hmi⟩ := hRM.map
              have hnd := hmi.2.2
              refine WC.skip ?_
              refine thenQ_n (hK16 _ _ ?_)
              refine WC.block ?_
              refine WC.seq (fun K17 hK17 => ?_)
              refine WC.region ?_
              refine WL.op rfl (opW.entryM hRM hi rfl ?_)
              refine WL.op rfl (opW.extract rfl rfl ?_)
              refine WL.op rfl (opW.extract rfl rfl ?_)
              refine WL.op rfl (opW.allocA hS ?_)
              intro b13 w _ hS
              refine WL.op0 (opW.storeE hS rfl rfl (by first | exact .here | exact .there (.here) | exact .there (.there (.here)) | exact .there (.there (.there (.here))) | exact .there (.there (.there (.there (.here)))) | exact .there (.there (.there (.there (.there (.here))))) | exact .there (.there (.there (.there (.there (.there (.here)))))) | exact .there (.there (.there (.there (.there (.there (.there (.here))))))) | exact .there (.there (.there (.there (.there (.there (.there (.there (.here)))))))) | exact .there (.there (.there (.there (.there (.there (.there (.there (.there (.here))))))))) | exact .there (.there (.there (.there (.there (.there (.there (.there (.there (.there (.here)))))))))) | exact .there (.there (.there (.there (.there (.there (.there (.there (.there (.there (.there (.here))))))))))) | exact .there (.there (.there (.there (.there (.there (.there (.there (.there (.there (.there (.there (.here))))))))))))) (by first | rfl | exact Enc.size_eq _) ?_)
              intro w hS; replace hS := hS _ (by first | exact .here | exact .there (.here) | exact .there (.there (.here)) | exact .there (.there (.there (.here))) | exact .there (.there (.there (.there (.here)))) | exact .there (.there (.there (.there (.there (.here))))) | exact .there (.there (.there (.there (.there (.there (.here)))))) | exact .there (.there (.there (.there (.there (.there (.there (.here))))))) | exact .there (.there (.there (.there (.there (.there (.there (.there (.here)))))))) | exact .there (.there (.there (.there (.there (.there (.there (.there (.there (.here))))))))) | exact .there (.there (.there (.there (.there (.there (.there (.there (.there (.there (.here)))))))))) | exact .there (.there (.there (.there (.there (.there (.there (.there (.there (.there (.there (.here))))))))))) | exact .there (.there (.there (.there (.there (.there (.there (.there (.there (.there (.there (.there (.here)))))))))))))
              refine WL.op rfl (opW.assignV (v := nv (now[i]).2) rfl ?_)
              refine WL.nil ?_
              refine thenQ_n (hK17 _ _ ?_)
              refine WC.draw 6 (.look 0 (.look 1 (.look 2 (.look 3 (.look 4 (.look 5 (.one 6 .nil))))))) (by kernel_rfl) (fun _ _ _ h => h) (fun w1 hw1 => ?_)
              replace hS := hS.bel hw1
              have hS1 := hS
              have hT := St.start w1
              refine ML.look rfl rfl rfl (fun w hw => (by have hS := hS1.bel hw; exact opW.moveV (v := .pointer (some ⟨p, 0, none⟩)) rfl ⟨rfl, rfl⟩)) ?_
              refine ML.look rfl rfl rfl (fun w hw => (by have hS := hS1.bel hw; exact opW.nilCheckB rfl ⟨rfl, rfl⟩)) ?_
              refine ML.look rfl rfl rfl (fun w hw => (by have hS := hS1.bel hw; exact opW.fieldAddrB rfl ⟨rfl, rfl⟩)) ?_
              refine ML.look rfl rfl rfl (fun w hw => (by have hS := hS1.bel hw; exact opW.loadV rfl (hS.ld1 (by first | exact .here | exact .there (.here) | exact .there (.there (.here)) | exact .there (.there (.there (.here))) | exact .there (.there (.there (.there (.here)))) | exact .there (.there (.there (.there (.there (.here))))) | exact .there (.there (.there (.there (.there (.there (.here)))))) | exact .there (.there (.there (.there (.there (.there (.there (.here))))))) | exact .there (.there (.there (.there (.there (.there (.there (.there (.here)))))))) | exact .there (.there (.there (.there (.there (.there (.there (.there (.there (.here))))))))) | exact .there (.there (.there (.there (.there (.there (.there (.there (.there (.there (.here)))))))))) | exact .there (.there (.there (.there (.there (.there (.there (.there (.there (.there (.there (.here))))))))))) | exact .there (.there (.there (.there (.there (.there (.there (.there (.there (.there (.there (.there (.here))))))))))))) (TrS.at_of _)) ⟨rfl, rfl⟩)) ?_
              refine ML.look rfl rfl rfl (fun w hw => (by have hS := hS1.bel hw; exact opW.loadV rfl (hS.ldA (cs := Enc.enc (now[i]).1) (by first | exact .here | exact .there (.here) | exact .there (.there (.here)) | exact .there (.there (.there (.here))) | exact .there (.there (.there (.there (.here)))) | exact .there (.there (.there (.there (.there (.here))))) | exact .there (.there (.there (.there (.there (.there (.here)))))) | exact .there (.there (.there (.there (.there (.there (.there (.here))))))) | exact .there (.there (.there (.there (.there (.there (.there (.there (.here)))))))) | exact .there (.there (.there (.there (.there (.there (.there (.there (.there (.here))))))))) | exact .there (.there (.there (.there (.there (.there (.there (.there (.there (.there (.here)))))))))) | exact .there (.there (.there (.there (.there (.there (.there (.there (.there (.there (.there (.here))))))))))) | exact .there (.there (.there (.there (.there (.there (.there (.there (.there (.there (.there (.there (.here))))))))))))) (Enc.size_eq _)) ⟨rfl, rfl⟩)) ?_
              refine ML.look rfl rfl rfl (fun w hw => (by have hS := hS1.bel hw; exact opW.moveV (v := nv (now[i]).2) rfl ⟨rfl, rfl⟩)) ?_
              refine ML.put0 rfl rfl rfl (opW.mapUpdate (κ := Key) (k := (now[i]).1) (v := (now[i]).2) (vv := nv) (kvs := cur) hS (by first | exact .here | exact .there (.here) | exact .there (.there (.here)) | exact .there (.there (.there (.here))) | exact .there (.there (.there (.there (.here)))) | exact .there (.there (.there (.there (.there (.here))))) | exact .there (.there (.there (.there (.there (.there (.here)))))) | exact .there (.there (.there (.there (.there (.there (.there (.here))))))) | exact .there (.there (.there (.there (.there (.there (.there (.there (.here)))))))) | exact .there (.there (.there (.there (.there (.there (.there (.there (.there (.here))))))))) | exact .there (.there (.there (.there (.there (.there (.there (.there (.there (.there (.here)))))))))) | exact .there (.there (.there (.there (.there (.there (.there (.there (.there (.there (.there (.here))))))))))) | exact .there (.there (.there (.there (.there (.there (.there (.there (.there (.there (.there (.there (.here))))))))))))) rfl rfl rfl ?_)
              intro w hS; replace hS := hS _ (by first | exact .here | exact .there (.here) | exact .there (.there (.here)) | exact .there (.there (.there (.here))) | exact .there (.there (.there (.there (.here)))) | exact .there (.there (.there (.there (.there (.here))))) | exact .there (.there (.there (.there (.there (.there (.here)))))) | exact .there (.there (.there (.there (.there (.there (.there (.here))))))) | exact .there (.there (.there (.there (.there (.there (.there (.there (.here)))))))) | exact .there (.there (.there (.there (.there (.there (.there (.there (.there (.here))))))))) | exact .there (.there (.there (.there (.there (.there (.there (.there (.there (.there (.here)))))))))) | exact .there (.there (.there (.there (.there (.there (.there (.there (.there (.there (.there (.here))))))))))) | exact .there (.there (.there (.there (.there (.there (.there (.there (.there (.there (.there (.there (.here)))))))))))))
              refine ML.nil ?_
              refine blockQ_n ?_
              refine thenQ_n ?_
              refine ⟨now.length - (is ++ [i]).length, by simp; omega, is ++ [i], _, ⟨rfl, rfl, trivial⟩, hS.sub (by repeat (first | with_reducible exact List.nil_sublist _ | with_reducible exact List.Sublist.refl _ | with_reducible refine List.Sublist.cons₂ _ ?_ | with_reducible refine List.Sublist.cons _ ?_)), hcur.step hi hnd hnow, rfl⟩
            ·
              have hr2 := hc2
              try simp only [decide_eq_true_eq, decide_eq_false_iff_not, Bool.and_eq_true, Bool.or_eq_true, Bool.and_eq_false_iff, Bool.or_eq_false_iff, Bool.not_eq_true', Bool.not_eq_false', Int.not_lt, Int.not_le] at hc2
              obtain ⟨_, hall⟩ := hF hr2
              refine WC.exit ?_
              refine thenQ_e ?_
              refine thenQ_e ?_
              refine blockQ_hit ?_
              refine thenQ_n (hK13 _ _ ?_)
              refine WC.seq (fun K18 hK18 => ?_)
              refine WC.region ?_
              refine WL.op rfl (opW.assignI rfl ?_)
              refine WL.nil ?_
              refine thenQ_n (hK18 _ _ ?_)
              refine WC.ret ?_
              refine bodyQ_ret (.tmpI rfl .nil) ?_
              have hRM := hS.rng (vv := nv) (kvs := now) (by first | exact .here | exact .there (.here) | exact .there (.there (.here)) | exact .there (.there (.there (.here))) | exact .there (.there (.there (.there (.here)))) | exact .there (.there (.there (.there (.there (.here))))) | exact .there (.there (.there (.there (.there (.there (.here)))))) | exact .there (.there (.there (.there (.there (.there (.there (.here))))))) | exact .there (.there (.there (.there (.there (.there (.there (.there (.here)))))))) | exact .there (.there (.there (.there (.there (.there (.there (.there (.there (.here))))))))) | exact .there (.there (.there (.there (.there (.there (.there (.there (.there (.there (.here)))))))))) | exact .there (.there (.there (.there (.there (.there (.there (.there (.there (.there (.there (.here))))))))))) | exact .there (.there (.there (.there (.there (.there (.there (.there (.there (.there (.there (.there (.here)))))))))))))
              obtain ⟨_, _, _, hmi⟩ := hRM.map
              have hai : AddIs d cost keys space ⟨d.lim, sumH d.block cost, sumH d.space space, d.r, cur⟩ := ⟨rfl, rfl, rfl, fun x => hcur.all hmi.2.2 hnow hall x⟩
              exact ⟨⟨d.lim, sumH d.block cost, sumH d.space space, d.r, cur⟩, congrArg (Value.int .i64) hz.symm, fun _ => hai, fun h => absurd hz h, hai.ok hok, hS.drop1.trClose ⟨d.lim, sumH d.block cost, sumH d.space space, d.r, cur⟩⟩

end Go.Fer
