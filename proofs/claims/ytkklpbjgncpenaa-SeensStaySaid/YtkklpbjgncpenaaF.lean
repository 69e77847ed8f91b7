/- SeensStay -/
import Derived.Test.YtkklpbjgncpenaaD
set_option linter.all false
namespace Go.Fer
open Go Go.Proofs Go.RowKit

def pairs (fs : List Act) : List (Sig × Hash) := fs.map fun a => (a.g, a.h)
theorem pairs_fst (fs : List Act) : (pairs fs).map Prod.fst = fs.map Act.g := by simp [pairs]
theorem isSome_iff {κ ν : Type} [DecidableEq κ] {k : κ} {l : List (κ × ν)} : (aget k l).isSome = true ↔ k ∈ l.map Prod.fst := by
  cases h : aget k l with
  | none => simp [aget_none.1 h]
  | some v =>
    refine ⟨fun _ => ?_, fun _ => rfl⟩
    exact Classical.byContradiction fun hc => (by rw [aget_none.2 hc] at h; cases h)
theorem isSome_not {κ ν : Type} [DecidableEq κ] {k : κ} {l : List (κ × ν)} : (aget k l).isSome = false ↔ k ∉ l.map Prod.fst := by
  rw [← isSome_iff]; simp
theorem mark_new {fs : List Act} {x : Act} (h : (aget x.g (pairs fs)).isSome = false) : markL (pairs fs) x.g x.h = pairs (fs ++ [x]) := by
  unfold markL
  rw [if_neg (by rw [h]; decide)]
  simp [pairs]
theorem mark_old {L : List (Sig × Hash)} {g : Sig} {h : Hash} (hs : (aget g L).isSome = true) : markL L g h = L := if_pos hs
theorem code_ok {b : Bool} (h : decide ((if b = true then (28 : Int) else 0) = 0) = true) : b = false := by revert h; cases b <;> simp
theorem code_no {b : Bool} (h : decide ((if b = true then (28 : Int) else 0) = 0) = false) : b = true := by revert h; cases b <;> simp
theorem first_ne {fs : List Act} (hn : (fs.map Act.g).Nodup) {i k : Nat} (hi : i < fs.length) (hk : k < i) : fs[i].g ≠ (fs[k]'(by omega)).g := by
  intro e
  have := List.pairwise_iff_getElem.1 hn k i (by simp; omega) (by simpa using hi) hk
  simp at this
  exact this e.symm
theorem first_has {fs : List Act} {k : Nat} (hk : k < fs.length) : (aget fs[k].g (pairs fs)).isSome = true := by
  rw [isSome_iff, pairs_fst]
  exact List.mem_map_of_mem (List.getElem_mem hk)
theorem ofH_pairs (fs : List Act) (h : Hash) : (ofH (pairs fs) h).length = fs.countP (fun a => decide (a.h = h)) := by
  simp only [ofH, pairs, List.length_map, List.filter_map, List.countP_eq_length_filter]; rfl
theorem forget_twice (L : List (Sig × Hash)) (h : Hash) : forgetL (forgetL L h) h = forgetL L h := by simp [forgetL, List.filter_filter]
theorem ofH_forget (L : List (Sig × Hash)) (h : Hash) : ofH (forgetL L h) h = [] := by
  simp only [ofH, forgetL, List.filter_filter]
  rw [List.map_eq_nil_iff, List.filter_eq_nil_iff]
  intro q _; simp
theorem forget_len (fs : List Act) (h : Hash) : (forgetL (pairs fs) h).length + fs.countP (fun a => decide (a.h = h)) = fs.length := by
  induction fs with
  | nil => rfl
  | cons a fs ih =>
    simp only [pairs, forgetL, List.map_cons, List.countP_cons] at ih ⊢
    by_cases e : a.h = h
    · rw [List.filter_cons_of_neg (by simp [e])]; simp [e]; simp at ih; omega
    · rw [List.filter_cons_of_pos (by simp [e])]; simp [e]; simp at ih; omega
/-- what there is while those of the hash are marked anew -/
def stL (fs : List Act) (h : Hash) (k : Nat) : List (Sig × Hash) := forgetL (pairs fs) h ++ pairs ((fs.take k).filter fun a => decide (a.h = h))
theorem stL_has {fs : List Act} {h : Hash} {k : Nat} (hn : (fs.map Act.g).Nodup) (hk : k < fs.length) : (aget fs[k].g (stL fs h k)).isSome = decide (fs[k].h ≠ h) := by
  have inj : ∀ a ∈ fs, a.g = fs[k].g → a = fs[k] := by
    intro a ha e
    obtain ⟨j, hj, rfl⟩ := List.getElem_of_mem ha
    rcases Nat.lt_trichotomy j k with h1 | h1 | h1
    · exact absurd e.symm (first_ne hn hk h1)
    · subst h1; rfl
    · exact absurd e (first_ne hn hj h1)
  rw [Bool.eq_iff_iff, isSome_iff, decide_eq_true_eq]
  simp only [stL, List.map_append, List.mem_append, pairs_fst]
  constructor
  · rintro (h1 | h1)
    · obtain ⟨q, hq, e⟩ := List.mem_map.1 h1
      obtain ⟨hq1, hq2⟩ := List.mem_filter.1 hq
      obtain ⟨a, ha, rfl⟩ := List.mem_map.1 hq1
      have := inj a ha e
      subst this
      simpa using hq2
    · obtain ⟨a, ha, e⟩ := List.mem_map.1 h1
      obtain ⟨ha1, ha2⟩ := List.mem_filter.1 ha
      have h2 := inj a (List.mem_of_mem_take ha1) e
      obtain ⟨j, hj, e2⟩ := List.getElem_of_mem ha1
      have hjk : j < k := by have := hj; rw [List.length_take] at this; omega
      rw [List.getElem_take] at e2
      exact absurd (by rw [← h2, ← e2]) (first_ne hn hk hjk)
  · intro h1
    exact .inl (List.mem_map.2 ⟨(fs[k].g, fs[k].h), List.mem_filter.2 ⟨List.mem_map_of_mem (List.getElem_mem hk), by simpa using h1⟩, rfl⟩)
theorem stL_mark {fs : List Act} {h : Hash} {k : Nat} (hn : (fs.map Act.g).Nodup) (hk : k < fs.length) : markL (stL fs h k) fs[k].g h = stL fs h (k + 1) := by
  have h1 := stL_has (h := h) hn hk
  unfold markL
  by_cases e : fs[k].h = h
  · rw [if_neg (by rw [h1]; simp [e])]
    unfold stL
    rw [List.take_succ_eq_append_getElem hk, List.filter_append, List.append_assoc]
    congr 1
    simp [pairs, e]
  · rw [if_pos (by rw [h1]; simp [e])]
    unfold stL
    rw [List.take_succ_eq_append_getElem hk, List.filter_append]
    simp [e]
theorem stL_zero (fs : List Act) (h : Hash) : stL fs h 0 = forgetL (pairs fs) h := by simp [stL, pairs]
theorem stL_len (fs : List Act) (h : Hash) : (stL fs h fs.length).length = fs.length := by
  have := forget_len fs h
  simp only [stL, List.take_length, List.length_append]
  rw [List.countP_eq_length_filter] at this
  simp only [pairs, List.length_map] at this ⊢
  omega
theorem stL_le (fs : List Act) (h : Hash) (k : Nat) : (stL fs h k).length ≤ 2 * fs.length := by
  simp only [stL, forgetL, pairs, List.length_append, List.length_map]
  have h1 := List.length_filter_le (fun q : Sig × Hash => decide (q.2 ≠ h)) (fs.map fun a => (a.g, a.h))
  have h2 := List.length_filter_le (fun a : Act => decide (a.h = h)) (fs.take k)
  simp only [List.length_map, List.length_take] at h1 h2
  omega
theorem count_step {fs : List Act} {k : Nat} {p : Act → Bool} (hk : k < fs.length) : ((fs.take (k + 1)).countP p : Int) = (fs.take k).countP p + (if p fs[k] = true then 1 else 0) := by
  rw [List.take_succ_eq_append_getElem hk, List.countP_append, List.countP_singleton]
  split <;> simp

theorem stay_law (w0 : World) (v : Value) (xs : List Act) (h : Hash) (hx : SlR w0 v xs) : Ret Try.prog 3 #[v, .agg (Enc.enc h)] w0 (fun r w' => r = .bool true ∧ Bel w0 w') := by
  refine Ret.enter (args := [v, .agg (Enc.enc h)]) Try.func3 rfl Try.ntmps3 Try.results3 rfl ?_
  have hS := St.start w0
  refine WC.seq (fun K1 hK1 => ?_)
  refine WC.region ?_
  refine WL.op rfl (opW.boxA hS rfl ?_)
  intro b3 w _ hS
  refine WL.op rfl (opW.assignB rfl ?_)
  refine WL.nil ?_
  refine thenQ_n (hK1 _ _ ?_)
  refine WC.seq (fun K2 hK2 => ?_)
  refine WC.seq (fun K3 hK3 => ?_)
  refine WC.region ?_
  refine WL.op rfl (opW.moveV (v := v) rfl ?_)
  refine WL.op rfl (opW.lenV rfl ((hx.bel hS.old)) ?_)
  refine WL.op rfl (opW.gtr rfl rfl ?_)
  refine WL.nil ?_
  refine thenQ_n (hK3 _ _ ?_)
  refine WC.cond _ rfl (fun hc0 => ?_) (fun hc0 => ?_)
  ·
    have hr0 := hc0
    try simp only [decide_eq_true_eq, decide_eq_false_iff_not, Bool.and_eq_true, Bool.or_eq_true, Bool.and_eq_false_iff, Bool.or_eq_false_iff, Bool.not_eq_true', Bool.not_eq_false', Int.not_lt, Int.not_le] at hc0
    refine WC.seq (fun K4 hK4 => ?_)
    refine WC.region ?_
    refine WL.op rfl (opW.call (lives25 _) rfl ?_)
    rintro _ w ⟨rfl, hw⟩; replace hS := hS.bel hw
    refine WL.op rfl (opW.assignB rfl ?_)
    refine WL.nil ?_
    refine thenQ_n (hK4 _ _ ?_)
    refine WC.ret ?_
    refine thenQ_r ?_
    refine bodyQ_ret (.tmpB rfl .nil) ?_
    exact ⟨rfl, hS.old⟩
  ·
    have hr0 := hc0
    try simp only [decide_eq_true_eq, decide_eq_false_iff_not, Bool.and_eq_true, Bool.or_eq_true, Bool.and_eq_false_iff, Bool.or_eq_false_iff, Bool.not_eq_true', Bool.not_eq_false', Int.not_lt, Int.not_le] at hc0
    simp only [decide_eq_false_iff_not] at hr0
    refine WC.skip ?_
    refine thenQ_n (hK2 _ _ ?_)
    refine WC.seq (fun K5 hK5 => ?_)
    refine WC.region ?_
    refine WL.op rfl (opW.call (new_ok _) rfl ?_)
    rintro _ w ⟨p, d0, rfl, hd0, hn0, hw⟩
    replace hS := hS.newE hw hn0
    refine WL.op rfl (opW.assignV (v := .pointer (some ⟨p, 0, none⟩)) rfl ?_)
    refine WL.nil ?_
    refine thenQ_n (hK5 _ _ ?_)
    refine WC.seq (fun K6 hK6 => ?_)
    refine WC.region ?_
    refine WL.op rfl (opW.assignV (v := .slice none 0 0) rfl ?_)
    refine WL.nil ?_
    refine thenQ_n (hK6 _ _ ?_)
    refine WC.seq (fun K7 hK7 => ?_)
    refine WC.seq (fun K8 hK8 => ?_)
    refine WC.region ?_
    refine WL.op rfl (opW.assignI rfl ?_)
    refine WL.nil ?_
    refine thenQ_n (hK8 _ _ ?_)
    refine WC.block ?_
    refine WC.loop (fun q f w => ∃ (k : Nat) (vf : Value) (fs : List Act) (d : SeD), Fits [(0, v), (3, .pointer (some ⟨b3, 0, none⟩)), (5, .pointer (some ⟨p, 0, none⟩)), (6, vf), (7, .int .i64 (k : Int))] f ∧ St w0 [seE p d (pairs fs), ownE vf 33 fs, blkE b3 (Enc.enc h) 24] w ∧ SeIs (pairs fs) d ∧ fs.length ≤ k ∧ k ≤ xs.length ∧ q = xs.length - k) (xs.length) ?_ ?_
    ·
      replace hS := hS.nilOwn (α := Act) 33
      exact ⟨0, .slice none 0 0, [], d0, ⟨rfl, rfl, rfl, rfl, rfl, trivial⟩, hS.swap, hd0, Nat.le_refl _, Nat.zero_le _, rfl⟩
    ·
      rintro q f w ⟨k, vf, fs, d, hfit, hS, hd, hfk, hk0, hm⟩
      refine WC.fits _ hfit (fun g => ?_)
      clear hfit
      refine WC.seq (fun K9 hK9 => ?_)
      refine WC.seq (fun K10 hK10 => ?_)
      refine WC.region ?_
      refine WL.op rfl (opW.moveI rfl ?_)
      refine WL.op rfl (opW.moveV (v := v) rfl ?_)
      refine WL.op rfl (opW.lenV rfl ((hx.bel hS.old)) ?_)
      refine WL.op rfl (opW.lss rfl rfl ?_)
      refine WL.nil ?_
      refine thenQ_n (hK10 _ _ ?_)
      refine WC.cond _ rfl (fun hc1 => ?_) (fun hc1 => ?_)
      ·
        have hr1 := hc1
        try simp only [decide_eq_true_eq, decide_eq_false_iff_not, Bool.and_eq_true, Bool.or_eq_true, Bool.and_eq_false_iff, Bool.or_eq_false_iff, Bool.not_eq_true', Bool.not_eq_false', Int.not_lt, Int.not_le] at hc1
        have hkl : k < xs.length := by omega
        refine WC.skip ?_
        refine thenQ_n (hK9 _ _ ?_)
        refine WC.seq (fun K11 hK11 => ?_)
        refine WC.block ?_
        refine WC.seq (fun K12 hK12 => ?_)
        refine WC.draw 11 [(0, .look), (1, .look), (2, .look), (3, .look), (4, .look), (5, .look), (6, .look), (7, .look), (8, .look), (9, .look), (10, .look), (11, .one), (12, .one)] (by kernel_rfl) (fun _ _ _ h => h) (fun w1 hw1 => ?_)
        replace hS := hS.bel hw1
        have hS1 := hS
        have hT := St.start w1
        refine ML.look rfl rfl rfl (fun w hw => (by have hS := hS1.bel hw; exact opW.moveV (v := .pointer (some ⟨p, 0, none⟩)) rfl ⟨rfl, rfl⟩)) ?_
        refine ML.look rfl rfl rfl (fun w hw => (by have hS := hS1.bel hw; exact opW.moveV (v := v) rfl ⟨rfl, rfl⟩)) ?_
        refine ML.look rfl rfl rfl (fun w hw => (by have hS := hS1.bel hw; exact opW.moveI rfl ⟨rfl, rfl⟩)) ?_
        refine ML.look rfl rfl rfl (fun w hw => (by have hS := hS1.bel hw; exact opW.idxV rfl ((hx.bel hS.old)) rfl (by omega) ⟨rfl, rfl⟩)) ?_
        refine ML.look rfl rfl rfl (fun w hw => (by have hS := hS1.bel hw; exact opW.fieldAddr rfl ((hx.bel hS.old).isP hkl) ⟨rfl, rfl⟩)) ?_
        refine ML.look rfl rfl rfl (fun w hw => (by have hS := hS1.bel hw; exact opW.loadV rfl (Ld.ptA ((hx.bel hS.old).isPt hkl) 1 (Act.ex_g _) (by rw [Enc.size_eq]; decide)) ⟨rfl, rfl⟩)) ?_
        refine ML.look rfl rfl rfl (fun w hw => (by have hS := hS1.bel hw; exact opW.moveV (v := v) rfl ⟨rfl, rfl⟩)) ?_
        refine ML.look rfl rfl rfl (fun w hw => (by have hS := hS1.bel hw; exact opW.moveI rfl ⟨rfl, rfl⟩)) ?_
        refine ML.look rfl rfl rfl (fun w hw => (by have hS := hS1.bel hw; exact opW.idxV rfl ((hx.bel hS.old)) rfl (by omega) ⟨rfl, rfl⟩)) ?_
        refine ML.look rfl rfl rfl (fun w hw => (by have hS := hS1.bel hw; exact opW.fieldAddr rfl ((hx.bel hS.old).isP hkl) ⟨rfl, rfl⟩)) ?_
        refine ML.look rfl rfl rfl (fun w hw => (by have hS := hS1.bel hw; exact opW.loadV rfl (Ld.ptA ((hx.bel hS.old).isPt hkl) 65 (Act.ex_h _) (by rw [Enc.size_eq]; decide)) ⟨rfl, rfl⟩)) ?_
        refine ML.put1 rfl rfl rfl (by simp) (opW.call (mark_ok _ _ _ p d (pairs fs) xs[k].g xs[k].h (hS.pick (by first | exact .here | exact .there (.here) | exact .there (.there (.here)) | exact .there (.there (.there (.here))) | exact .there (.there (.there (.there (.here)))) | exact .there (.there (.there (.there (.there (.here))))) | exact .there (.there (.there (.there (.there (.there (.here)))))) | exact .there (.there (.there (.there (.there (.there (.there (.here))))))) | exact .there (.there (.there (.there (.there (.there (.there (.there (.here)))))))))) hd (by simp [pairs]; omega)) rfl ?_)
        rintro _ w ⟨d2, rfl, hd2, hS⟩
        refine ML.put1 rfl rfl rfl (by simp) (opW.assignI rfl ?_)
        refine ML.nil ?_
        refine thenQ_n (hK12 _ _ ?_)
        refine WC.seq (fun K13 hK13 => ?_)
        refine WC.region ?_
        refine WL.op rfl (opW.moveI rfl ?_)
        refine WL.op rfl (opW.eql rfl rfl ?_)
        refine WL.nil ?_
        refine thenQ_n (hK13 _ _ ?_)
        refine WC.cond _ rfl (fun hc2 => ?_) (fun hc2 => ?_)
        ·
          have hr2 := hc2
          try simp only [decide_eq_true_eq, decide_eq_false_iff_not, Bool.and_eq_true, Bool.or_eq_true, Bool.and_eq_false_iff, Bool.or_eq_false_iff, Bool.not_eq_true', Bool.not_eq_false', Int.not_lt, Int.not_le] at hc2
          have hg := code_ok hr2
          rw [mark_new hg] at hd2 hS
          refine WC.region ?_
          refine WL.op rfl (opW.moveV (v := vf) rfl ?_)
          refine WL.op rfl (opW.moveV (v := v) rfl ?_)
          refine WL.op rfl (opW.moveI rfl ?_)
          refine WL.op rfl (opW.idxV rfl ((hx.bel hS.old)) rfl (by omega) ?_)
          refine WL.op rfl (opW.loadV rfl (((hx.bel hS.old).isPt hkl).ldA (Enc.size_eq xs[k])) ?_)
          refine WL.op rfl (opW.buildSl hS (([xs[k]] : List Act)) [.agg (Enc.enc xs[k])] rfl rfl rfl rfl (by decide) ?_)
          intro b45 w hw hS
          refine WL.op rfl (opW.appendOwn (α := Act) rfl hS rfl (by first | exact .here | exact .there (.here) | exact .there (.there (.here)) | exact .there (.there (.there (.here))) | exact .there (.there (.there (.there (.here)))) | exact .there (.there (.there (.there (.there (.here))))) | exact .there (.there (.there (.there (.there (.there (.here)))))) | exact .there (.there (.there (.there (.there (.there (.there (.here))))))) | exact .there (.there (.there (.there (.there (.there (.there (.there (.here))))))))) (hS.sl (by first | exact .here | exact .there (.here) | exact .there (.there (.here)) | exact .there (.there (.there (.here))) | exact .there (.there (.there (.there (.here)))) | exact .there (.there (.there (.there (.there (.here))))) | exact .there (.there (.there (.there (.there (.there (.here)))))) | exact .there (.there (.there (.there (.there (.there (.there (.here))))))) | exact .there (.there (.there (.there (.there (.there (.there (.there (.here)))))))))) (by simp only [List.length_cons, List.length_nil]; omega) (by simp only [maxLen]; simp only [List.length_cons, List.length_nil]; omega) ?_)
          intro v46 w hS; replace hS := hS _ (by first | exact .here | exact .there (.here) | exact .there (.there (.here)) | exact .there (.there (.there (.here))) | exact .there (.there (.there (.there (.here)))) | exact .there (.there (.there (.there (.there (.here))))) | exact .there (.there (.there (.there (.there (.there (.here)))))) | exact .there (.there (.there (.there (.there (.there (.there (.here))))))) | exact .there (.there (.there (.there (.there (.there (.there (.there (.here)))))))))
          refine WL.op rfl (opW.assignV (v := v46) rfl ?_)
          refine WL.nil ?_
          refine blockQ_n ?_
          refine thenQ_n (hK11 _ _ ?_)
          refine WC.region ?_
          refine WL.op rfl (opW.moveI rfl ?_)
          refine WL.op rfl (opW.add rfl rfl (wrap_i64 (by omega)) ?_)
          refine WL.op rfl (opW.assignI rfl ?_)
          refine WL.nil ?_
          refine thenQ_n ?_
          first | exact ⟨xs.length - (k + 1), by omega, k + 1, v46, fs ++ [xs[k]], d2, ⟨rfl, rfl, rfl, rfl, congrArg (Value.int .i64) (by omega), trivial⟩, hS.sub (by repeat (first | with_reducible exact List.nil_sublist _ | with_reducible exact List.Sublist.refl _ | with_reducible refine List.Sublist.cons₂ _ ?_ | with_reducible refine List.Sublist.cons _ ?_)), hd2, by simp; omega, by omega, rfl⟩ | exact ⟨xs.length - (k + 1), by omega, k + 1, vf, fs, d2, ⟨rfl, rfl, rfl, rfl, congrArg (Value.int .i64) (by omega), trivial⟩, hS.sub (by repeat (first | with_reducible exact List.nil_sublist _ | with_reducible exact List.Sublist.refl _ | with_reducible refine List.Sublist.cons₂ _ ?_ | with_reducible refine List.Sublist.cons _ ?_)), hd2, by omega, by omega, rfl⟩
        ·
          have hr2 := hc2
          try simp only [decide_eq_true_eq, decide_eq_false_iff_not, Bool.and_eq_true, Bool.or_eq_true, Bool.and_eq_false_iff, Bool.or_eq_false_iff, Bool.not_eq_true', Bool.not_eq_false', Int.not_lt, Int.not_le] at hc2
          have hg := code_no hr2
          rw [mark_old hg] at hd2 hS
          refine WC.seq (fun K14 hK14 => ?_)
          refine WC.region ?_
          refine WL.op rfl (opW.moveI rfl ?_)
          refine WL.op rfl (opW.neq rfl rfl ?_)
          refine WL.nil ?_
          refine thenQ_n (hK14 _ _ ?_)
          refine WC.cond _ rfl (fun hc3 => ?_) (fun hc3 => ?_)
          ·
            have hr3 := hc3
            try simp only [decide_eq_true_eq, decide_eq_false_iff_not, Bool.and_eq_true, Bool.or_eq_true, Bool.and_eq_false_iff, Bool.or_eq_false_iff, Bool.not_eq_true', Bool.not_eq_false', Int.not_lt, Int.not_le] at hc3
            rw [if_pos hg] at hr3; simp at hr3
          ·
            have hr3 := hc3
            try simp only [decide_eq_true_eq, decide_eq_false_iff_not, Bool.and_eq_true, Bool.or_eq_true, Bool.and_eq_false_iff, Bool.or_eq_false_iff, Bool.not_eq_true', Bool.not_eq_false', Int.not_lt, Int.not_le] at hc3
            refine WC.skip ?_
            refine blockQ_n ?_
            refine thenQ_n (hK11 _ _ ?_)
            refine WC.region ?_
            refine WL.op rfl (opW.moveI rfl ?_)
            refine WL.op rfl (opW.add rfl rfl (wrap_i64 (by omega)) ?_)
            refine WL.op rfl (opW.assignI rfl ?_)
            refine WL.nil ?_
            refine thenQ_n ?_
            first | exact ⟨xs.length - (k + 1), by omega, k + 1, v46, fs ++ [xs[k]], d2, ⟨rfl, rfl, rfl, rfl, congrArg (Value.int .i64) (by omega), trivial⟩, hS.sub (by repeat (first | with_reducible exact List.nil_sublist _ | with_reducible exact List.Sublist.refl _ | with_reducible refine List.Sublist.cons₂ _ ?_ | with_reducible refine List.Sublist.cons _ ?_)), hd2, by simp; omega, by omega, rfl⟩ | exact ⟨xs.length - (k + 1), by omega, k + 1, vf, fs, d2, ⟨rfl, rfl, rfl, rfl, congrArg (Value.int .i64) (by omega), trivial⟩, hS.sub (by repeat (first | with_reducible exact List.nil_sublist _ | with_reducible exact List.Sublist.refl _ | with_reducible refine List.Sublist.cons₂ _ ?_ | with_reducible refine List.Sublist.cons _ ?_)), hd2, by omega, by omega, rfl⟩
      ·
        have hr1 := hc1
        try simp only [decide_eq_true_eq, decide_eq_false_iff_not, Bool.and_eq_true, Bool.or_eq_true, Bool.and_eq_false_iff, Bool.or_eq_false_iff, Bool.not_eq_true', Bool.not_eq_false', Int.not_lt, Int.not_le] at hc1
        have hnd : (fs.map Act.g).Nodup := by rw [← pairs_fst]; exact hd.1
        have hfl : fs.length ≤ 60 := by omega
        refine WC.exit ?_
        refine thenQ_e ?_
        refine thenQ_e ?_
        refine blockQ_hit ?_
        refine thenQ_n (hK7 _ _ ?_)
        refine WC.seq (fun K15 hK15 => ?_)
        refine WC.seq (fun K16 hK16 => ?_)
        refine WC.region ?_
        refine WL.op rfl (opW.assignI rfl ?_)
        refine WL.nil ?_
        refine thenQ_n (hK16 _ _ ?_)
        refine WC.block ?_
        refine WC.loop (fun q f w => ∃ i : Nat, Fits [(3, .pointer (some ⟨b3, 0, none⟩)), (5, .pointer (some ⟨p, 0, none⟩)), (6, vf), (9, .int .i64 (i : Int))] f ∧ St w0 [seE p d (pairs fs), ownE vf 33 fs, blkE b3 (Enc.enc h) 24] w ∧ i ≤ fs.length ∧ q = fs.length - i) (fs.length) ?_ ?_
        ·
          exact ⟨0, ⟨rfl, rfl, rfl, rfl, trivial⟩, hS, Nat.zero_le _, rfl⟩
        ·
          rintro q f w ⟨i, hfit, hS, hi0, hm⟩
          refine WC.fits _ hfit (fun g => ?_)
          clear hfit
          refine WC.seq (fun K17 hK17 => ?_)
          refine WC.seq (fun K18 hK18 => ?_)
          refine WC.region ?_
          refine WL.op rfl (opW.moveI rfl ?_)
          refine WL.op rfl (opW.moveV (v := vf) rfl ?_)
          refine WL.op rfl (opW.lenV rfl ((hS.sl (xs := fs) (by first | exact .here | exact .there (.here) | exact .there (.there (.here)) | exact .there (.there (.there (.here))) | exact .there (.there (.there (.there (.here)))) | exact .there (.there (.there (.there (.there (.here))))) | exact .there (.there (.there (.there (.there (.there (.here)))))) | exact .there (.there (.there (.there (.there (.there (.there (.here))))))) | exact .there (.there (.there (.there (.there (.there (.there (.there (.here))))))))))) ?_)
          refine WL.op rfl (opW.lss rfl rfl ?_)
          refine WL.nil ?_
          refine thenQ_n (hK18 _ _ ?_)
          refine WC.cond _ rfl (fun hc4 => ?_) (fun hc4 => ?_)
          ·
            have hr4 := hc4
            try simp only [decide_eq_true_eq, decide_eq_false_iff_not, Bool.and_eq_true, Bool.or_eq_true, Bool.and_eq_false_iff, Bool.or_eq_false_iff, Bool.not_eq_true', Bool.not_eq_false', Int.not_lt, Int.not_le] at hc4
            have hil : i < fs.length := by omega
            refine WC.skip ?_
            refine thenQ_n (hK17 _ _ ?_)
            refine WC.seq (fun K19 hK19 => ?_)
            refine WC.block ?_
            refine WC.seq (fun K20 hK20 => ?_)
            refine WC.region ?_
            refine WL.op rfl (opW.assignI rfl ?_)
            refine WL.nil ?_
            refine thenQ_n (hK20 _ _ ?_)
            refine WC.block ?_
            refine WC.loop (fun q2 f w => ∃ j : Nat, Fits [(3, .pointer (some ⟨b3, 0, none⟩)), (5, .pointer (some ⟨p, 0, none⟩)), (6, vf), (9, .int .i64 (i : Int)), (10, .int .i64 (j : Int))] f ∧ St w0 [seE p d (pairs fs), ownE vf 33 fs, blkE b3 (Enc.enc h) 24] w ∧ j ≤ i ∧ q2 = i - j) (i) ?_ ?_
            ·
              exact ⟨0, ⟨rfl, rfl, rfl, rfl, rfl, trivial⟩, hS, Nat.zero_le _, rfl⟩
            ·
              rintro q2 f w ⟨j, hfit, hS, hj0, hm2⟩
              refine WC.fits _ hfit (fun g => ?_)
              clear hfit
              refine WC.seq (fun K21 hK21 => ?_)
              refine WC.seq (fun K22 hK22 => ?_)
              refine WC.region ?_
              refine WL.op rfl (opW.moveI rfl ?_)
              refine WL.op rfl (opW.moveI rfl ?_)
              refine WL.op rfl (opW.lss rfl rfl ?_)
              refine WL.nil ?_
              refine thenQ_n (hK22 _ _ ?_)
              refine WC.cond _ rfl (fun hc5 => ?_) (fun hc5 => ?_)
              ·
                have hr5 := hc5
                try simp only [decide_eq_true_eq, decide_eq_false_iff_not, Bool.and_eq_true, Bool.or_eq_true, Bool.and_eq_false_iff, Bool.or_eq_false_iff, Bool.not_eq_true', Bool.not_eq_false', Int.not_lt, Int.not_le] at hc5
                have hji : j < i := by omega
                have hjl : j < fs.length := by omega
                refine WC.skip ?_
                refine thenQ_n (hK21 _ _ ?_)
                refine WC.seq (fun K23 hK23 => ?_)
                refine WC.block ?_
                refine WC.seq (fun K24 hK24 => ?_)
                refine WC.draw 11 [(0, .look), (1, .look), (2, .look), (3, .look), (4, .look), (5, .look), (6, .look), (7, .look), (8, .look), (9, .look), (10, .look)] (by kernel_rfl) (fun _ _ _ h => h) (fun w1 hw1 => ?_)
                replace hS := hS.bel hw1
                have hS1 := hS
                have hT := St.start w1
                refine ML.look rfl rfl rfl (fun w hw => (by have hS := hS1.bel hw; exact opW.moveV (v := vf) rfl ⟨rfl, rfl⟩)) ?_
                refine ML.look rfl rfl rfl (fun w hw => (by have hS := hS1.bel hw; exact opW.moveI rfl ⟨rfl, rfl⟩)) ?_
                refine ML.look rfl rfl rfl (fun w hw => (by have hS := hS1.bel hw; exact opW.idxV rfl ((hS.sl (xs := fs) (by first | exact .here | exact .there (.here) | exact .there (.there (.here)) | exact .there (.there (.there (.here))) | exact .there (.there (.there (.there (.here)))) | exact .there (.there (.there (.there (.there (.here))))) | exact .there (.there (.there (.there (.there (.there (.here)))))) | exact .there (.there (.there (.there (.there (.there (.there (.here))))))) | exact .there (.there (.there (.there (.there (.there (.there (.there (.here))))))))))) rfl (by omega) ⟨rfl, rfl⟩)) ?_
                refine ML.look rfl rfl rfl (fun w hw => (by have hS := hS1.bel hw; exact opW.fieldAddr rfl ((hS.sl (xs := fs) (by first | exact .here | exact .there (.here) | exact .there (.there (.here)) | exact .there (.there (.there (.here))) | exact .there (.there (.there (.there (.here)))) | exact .there (.there (.there (.there (.there (.here))))) | exact .there (.there (.there (.there (.there (.there (.here)))))) | exact .there (.there (.there (.there (.there (.there (.there (.here))))))) | exact .there (.there (.there (.there (.there (.there (.there (.there (.here)))))))))).isP hil) ⟨rfl, rfl⟩)) ?_
                refine ML.look rfl rfl rfl (fun w hw => (by have hS := hS1.bel hw; exact opW.loadV rfl (Ld.ptA ((hS.sl (xs := fs) (by first | exact .here | exact .there (.here) | exact .there (.there (.here)) | exact .there (.there (.there (.here))) | exact .there (.there (.there (.there (.here)))) | exact .there (.there (.there (.there (.there (.here))))) | exact .there (.there (.there (.there (.there (.there (.here)))))) | exact .there (.there (.there (.there (.there (.there (.there (.here))))))) | exact .there (.there (.there (.there (.there (.there (.there (.there (.here)))))))))).isPt hil) 1 (Act.ex_g _) (by rw [Enc.size_eq]; decide)) ⟨rfl, rfl⟩)) ?_
                refine ML.look rfl rfl rfl (fun w hw => (by have hS := hS1.bel hw; exact opW.moveV (v := vf) rfl ⟨rfl, rfl⟩)) ?_
                refine ML.look rfl rfl rfl (fun w hw => (by have hS := hS1.bel hw; exact opW.moveI rfl ⟨rfl, rfl⟩)) ?_
                refine ML.look rfl rfl rfl (fun w hw => (by have hS := hS1.bel hw; exact opW.idxV rfl ((hS.sl (xs := fs) (by first | exact .here | exact .there (.here) | exact .there (.there (.here)) | exact .there (.there (.there (.here))) | exact .there (.there (.there (.there (.here)))) | exact .there (.there (.there (.there (.there (.here))))) | exact .there (.there (.there (.there (.there (.there (.here)))))) | exact .there (.there (.there (.there (.there (.there (.there (.here))))))) | exact .there (.there (.there (.there (.there (.there (.there (.there (.here))))))))))) rfl (by omega) ⟨rfl, rfl⟩)) ?_
                refine ML.look rfl rfl rfl (fun w hw => (by have hS := hS1.bel hw; exact opW.fieldAddr rfl ((hS.sl (xs := fs) (by first | exact .here | exact .there (.here) | exact .there (.there (.here)) | exact .there (.there (.there (.here))) | exact .there (.there (.there (.there (.here)))) | exact .there (.there (.there (.there (.there (.here))))) | exact .there (.there (.there (.there (.there (.there (.here)))))) | exact .there (.there (.there (.there (.there (.there (.there (.here))))))) | exact .there (.there (.there (.there (.there (.there (.there (.there (.here)))))))))).isP hjl) ⟨rfl, rfl⟩)) ?_
                refine ML.look rfl rfl rfl (fun w hw => (by have hS := hS1.bel hw; exact opW.loadV rfl (Ld.ptA ((hS.sl (xs := fs) (by first | exact .here | exact .there (.here) | exact .there (.there (.here)) | exact .there (.there (.there (.here))) | exact .there (.there (.there (.there (.here)))) | exact .there (.there (.there (.there (.there (.here))))) | exact .there (.there (.there (.there (.there (.there (.here)))))) | exact .there (.there (.there (.there (.there (.there (.there (.here))))))) | exact .there (.there (.there (.there (.there (.there (.there (.there (.here)))))))))).isPt hjl) 1 (Act.ex_g _) (by rw [Enc.size_eq]; decide)) ⟨rfl, rfl⟩)) ?_
                refine ML.look rfl rfl rfl (fun w hw => (by have hS := hS1.bel hw; exact opW.eqlE (a := fs[i].g) (b := fs[j].g) rfl rfl ⟨rfl, rfl⟩)) ?_
                refine ML.nil ?_
                refine thenQ_n (hK24 _ _ ?_)
                refine WC.cond _ rfl (fun hc6 => ?_) (fun hc6 => ?_)
                ·
                  have hr6 := hc6
                  try simp only [decide_eq_true_eq, decide_eq_false_iff_not, Bool.and_eq_true, Bool.or_eq_true, Bool.and_eq_false_iff, Bool.or_eq_false_iff, Bool.not_eq_true', Bool.not_eq_false', Int.not_lt, Int.not_le] at hc6
                  exact absurd (of_decide_eq_true hr6) (first_ne hnd hil hji)
                ·
                  have hr6 := hc6
                  try simp only [decide_eq_true_eq, decide_eq_false_iff_not, Bool.and_eq_true, Bool.or_eq_true, Bool.and_eq_false_iff, Bool.or_eq_false_iff, Bool.not_eq_true', Bool.not_eq_false', Int.not_lt, Int.not_le] at hc6
                  refine WC.skip ?_
                  refine blockQ_n ?_
                  refine thenQ_n (hK23 _ _ ?_)
                  refine WC.region ?_
                  refine WL.op rfl (opW.moveI rfl ?_)
                  refine WL.op rfl (opW.add rfl rfl (wrap_i64 (by omega)) ?_)
                  refine WL.op rfl (opW.assignI rfl ?_)
                  refine WL.nil ?_
                  refine thenQ_n ?_
                  exact ⟨i - (j + 1), by omega, j + 1, ⟨rfl, rfl, rfl, rfl, congrArg (Value.int .i64) (by omega), trivial⟩, hS, by omega, rfl⟩
              ·
                have hr5 := hc5
                try simp only [decide_eq_true_eq, decide_eq_false_iff_not, Bool.and_eq_true, Bool.or_eq_true, Bool.and_eq_false_iff, Bool.or_eq_false_iff, Bool.not_eq_true', Bool.not_eq_false', Int.not_lt, Int.not_le] at hc5
                refine WC.exit ?_
                refine thenQ_e ?_
                refine thenQ_e ?_
                refine blockQ_hit ?_
                refine blockQ_n ?_
                refine thenQ_n (hK19 _ _ ?_)
                refine WC.region ?_
                refine WL.op rfl (opW.moveI rfl ?_)
                refine WL.op rfl (opW.add rfl rfl (wrap_i64 (by omega)) ?_)
                refine WL.op rfl (opW.assignI rfl ?_)
                refine WL.nil ?_
                refine thenQ_n ?_
                exact ⟨fs.length - (i + 1), by omega, i + 1, ⟨rfl, rfl, rfl, congrArg (Value.int .i64) (by omega), trivial⟩, hS, by omega, rfl⟩
          ·
            have hr4 := hc4
            try simp only [decide_eq_true_eq, decide_eq_false_iff_not, Bool.and_eq_true, Bool.or_eq_true, Bool.and_eq_false_iff, Bool.or_eq_false_iff, Bool.not_eq_true', Bool.not_eq_false', Int.not_lt, Int.not_le] at hc4
            refine WC.exit ?_
            refine thenQ_e ?_
            refine thenQ_e ?_
            refine blockQ_hit ?_
            refine thenQ_n (hK15 _ _ ?_)
            refine WC.seq (fun K25 hK25 => ?_)
            refine WC.region ?_
            refine WL.op rfl (opW.assignI rfl ?_)
            refine WL.nil ?_
            refine thenQ_n (hK25 _ _ ?_)
            refine WC.seq (fun K26 hK26 => ?_)
            refine WC.seq (fun K27 hK27 => ?_)
            refine WC.region ?_
            refine WL.op rfl (opW.assignI rfl ?_)
            refine WL.nil ?_
            refine thenQ_n (hK27 _ _ ?_)
            refine WC.block ?_
            refine WC.loop (fun q f w => ∃ k2 : Nat, Fits [(3, .pointer (some ⟨b3, 0, none⟩)), (5, .pointer (some ⟨p, 0, none⟩)), (6, vf), (11, .int .i64 ((fs.take k2).countP (fun a : Act => decide (a.h = h)) : Int)), (12, .int .i64 (k2 : Int))] f ∧ St w0 [seE p d (pairs fs), ownE vf 33 fs, blkE b3 (Enc.enc h) 24] w ∧ k2 ≤ fs.length ∧ q = fs.length - k2) (fs.length) ?_ ?_
            ·
              exact ⟨0, ⟨rfl, rfl, rfl, rfl, rfl, trivial⟩, hS, Nat.zero_le _, rfl⟩
            ·
              rintro q f w ⟨k2, hfit, hS, hk20, hm⟩
              refine WC.fits _ hfit (fun g => ?_)
              clear hfit
              refine WC.seq (fun K28 hK28 => ?_)
              refine WC.seq (fun K29 hK29 => ?_)
              refine WC.region ?_
              refine WL.op rfl (opW.moveI rfl ?_)
              refine WL.op rfl (opW.moveV (v := vf) rfl ?_)
              refine WL.op rfl (opW.lenV rfl ((hS.sl (xs := fs) (by first | exact .here | exact .there (.here) | exact .there (.there (.here)) | exact .there (.there (.there (.here))) | exact .there (.there (.there (.there (.here)))) | exact .there (.there (.there (.there (.there (.here))))) | exact .there (.there (.there (.there (.there (.there (.here)))))) | exact .there (.there (.there (.there (.there (.there (.there (.here))))))) | exact .there (.there (.there (.there (.there (.there (.there (.there (.here))))))))))) ?_)
              refine WL.op rfl (opW.lss rfl rfl ?_)
              refine WL.nil ?_
              refine thenQ_n (hK29 _ _ ?_)
              refine WC.cond _ rfl (fun hc7 => ?_) (fun hc7 => ?_)
              ·
                have hr7 := hc7
                try simp only [decide_eq_true_eq, decide_eq_false_iff_not, Bool.and_eq_true, Bool.or_eq_true, Bool.and_eq_false_iff, Bool.or_eq_false_iff, Bool.not_eq_true', Bool.not_eq_false', Int.not_lt, Int.not_le] at hc7
                have hkl : k2 < fs.length := by omega
                have hst := count_step (p := fun a : Act => decide (a.h = h)) hkl
                have hcl := List.countP_le_length (p := fun a : Act => decide (a.h = h)) (l := fs.take k2)
                simp only [List.length_take] at hcl
                refine WC.skip ?_
                refine thenQ_n (hK28 _ _ ?_)
                refine WC.seq (fun K30 hK30 => ?_)
                refine WC.block ?_
                refine WC.seq (fun K31 hK31 => ?_)
                refine WC.seq (fun K32 hK32 => ?_)
                refine WC.draw 7 [(0, .look), (1, .look), (2, .look), (3, .look), (4, .look), (5, .look), (6, .look)] (by kernel_rfl) (fun _ _ _ h => h) (fun w1 hw1 => ?_)
                replace hS := hS.bel hw1
                have hS1 := hS
                have hT := St.start w1
                refine ML.look rfl rfl rfl (fun w hw => (by have hS := hS1.bel hw; exact opW.moveV (v := vf) rfl ⟨rfl, rfl⟩)) ?_
                refine ML.look rfl rfl rfl (fun w hw => (by have hS := hS1.bel hw; exact opW.moveI rfl ⟨rfl, rfl⟩)) ?_
                refine ML.look rfl rfl rfl (fun w hw => (by have hS := hS1.bel hw; exact opW.idxV rfl ((hS.sl (xs := fs) (by first | exact .here | exact .there (.here) | exact .there (.there (.here)) | exact .there (.there (.there (.here))) | exact .there (.there (.there (.there (.here)))) | exact .there (.there (.there (.there (.there (.here))))) | exact .there (.there (.there (.there (.there (.there (.here)))))) | exact .there (.there (.there (.there (.there (.there (.there (.here))))))) | exact .there (.there (.there (.there (.there (.there (.there (.there (.here))))))))))) rfl (by omega) ⟨rfl, rfl⟩)) ?_
                refine ML.look rfl rfl rfl (fun w hw => (by have hS := hS1.bel hw; exact opW.fieldAddr rfl ((hS.sl (xs := fs) (by first | exact .here | exact .there (.here) | exact .there (.there (.here)) | exact .there (.there (.there (.here))) | exact .there (.there (.there (.there (.here)))) | exact .there (.there (.there (.there (.there (.here))))) | exact .there (.there (.there (.there (.there (.there (.here)))))) | exact .there (.there (.there (.there (.there (.there (.there (.here))))))) | exact .there (.there (.there (.there (.there (.there (.there (.there (.here)))))))))).isP hkl) ⟨rfl, rfl⟩)) ?_
                refine ML.look rfl rfl rfl (fun w hw => (by have hS := hS1.bel hw; exact opW.loadV rfl (Ld.ptA ((hS.sl (xs := fs) (by first | exact .here | exact .there (.here) | exact .there (.there (.here)) | exact .there (.there (.there (.here))) | exact .there (.there (.there (.there (.here)))) | exact .there (.there (.there (.there (.there (.here))))) | exact .there (.there (.there (.there (.there (.there (.here)))))) | exact .there (.there (.there (.there (.there (.there (.there (.here))))))) | exact .there (.there (.there (.there (.there (.there (.there (.there (.here)))))))))).isPt hkl) 65 (Act.ex_h _) (by rw [Enc.size_eq]; decide)) ⟨rfl, rfl⟩)) ?_
                refine ML.look rfl rfl rfl (fun w hw => (by have hS := hS1.bel hw; exact opW.loadV rfl (hS.ldA (cs := Enc.enc h) (by first | exact .here | exact .there (.here) | exact .there (.there (.here)) | exact .there (.there (.there (.here))) | exact .there (.there (.there (.there (.here)))) | exact .there (.there (.there (.there (.there (.here))))) | exact .there (.there (.there (.there (.there (.there (.here)))))) | exact .there (.there (.there (.there (.there (.there (.there (.here))))))) | exact .there (.there (.there (.there (.there (.there (.there (.there (.here))))))))) (Enc.size_eq _)) ⟨rfl, rfl⟩)) ?_
                refine ML.look rfl rfl rfl (fun w hw => (by have hS := hS1.bel hw; exact opW.eqlE (a := fs[k2].h) (b := h) rfl rfl ⟨rfl, rfl⟩)) ?_
                refine ML.nil ?_
                refine thenQ_n (hK32 _ _ ?_)
                refine WC.cond _ rfl (fun hc8 => ?_) (fun hc8 => ?_)
                ·
                  have hr8 := hc8
                  try simp only [decide_eq_true_eq, decide_eq_false_iff_not, Bool.and_eq_true, Bool.or_eq_true, Bool.and_eq_false_iff, Bool.or_eq_false_iff, Bool.not_eq_true', Bool.not_eq_false', Int.not_lt, Int.not_le] at hc8
                  refine WC.region ?_
                  refine WL.op rfl (opW.moveI rfl ?_)
                  refine WL.op rfl (opW.add rfl rfl (wrap_i64 (by omega)) ?_)
                  refine WL.op rfl (opW.assignI rfl ?_)
                  refine WL.nil ?_
                  refine thenQ_n (hK31 _ _ ?_)
                  refine WC.seq (fun K33 hK33 => ?_)
                  refine WC.region ?_
                  refine WL.op rfl (opW.moveV (v := .pointer (some ⟨p, 0, none⟩)) rfl ?_)
                  refine WL.op rfl (opW.moveV (v := vf) rfl ?_)
                  refine WL.op rfl (opW.moveI rfl ?_)
                  refine WL.op rfl (opW.idxV rfl ((hS.sl (xs := fs) (by first | exact .here | exact .there (.here) | exact .there (.there (.here)) | exact .there (.there (.there (.here))) | exact .there (.there (.there (.there (.here)))) | exact .there (.there (.there (.there (.there (.here))))) | exact .there (.there (.there (.there (.there (.there (.here)))))) | exact .there (.there (.there (.there (.there (.there (.there (.here))))))) | exact .there (.there (.there (.there (.there (.there (.there (.there (.here))))))))))) rfl (by omega) ?_)
                  refine WL.op rfl (opW.fieldAddr rfl ((hS.sl (xs := fs) (by first | exact .here | exact .there (.here) | exact .there (.there (.here)) | exact .there (.there (.there (.here))) | exact .there (.there (.there (.there (.here)))) | exact .there (.there (.there (.there (.there (.here))))) | exact .there (.there (.there (.there (.there (.there (.here)))))) | exact .there (.there (.there (.there (.there (.there (.there (.here))))))) | exact .there (.there (.there (.there (.there (.there (.there (.there (.here)))))))))).isP hkl) ?_)
                  refine WL.op rfl (opW.loadV rfl (Ld.ptA ((hS.sl (xs := fs) (by first | exact .here | exact .there (.here) | exact .there (.there (.here)) | exact .there (.there (.there (.here))) | exact .there (.there (.there (.there (.here)))) | exact .there (.there (.there (.there (.there (.here))))) | exact .there (.there (.there (.there (.there (.there (.here)))))) | exact .there (.there (.there (.there (.there (.there (.there (.here))))))) | exact .there (.there (.there (.there (.there (.there (.there (.there (.here)))))))))).isPt hkl) 1 (Act.ex_g _) (by rw [Enc.size_eq]; decide)) ?_)
                  refine WL.op rfl (opW.call (has_ok _ p d (pairs fs) fs[k2].g (hS.seAt (by first | exact .here | exact .there (.here) | exact .there (.there (.here)) | exact .there (.there (.there (.here))) | exact .there (.there (.there (.there (.here)))) | exact .there (.there (.there (.there (.there (.here))))) | exact .there (.there (.there (.there (.there (.there (.here)))))) | exact .there (.there (.there (.there (.there (.there (.there (.here))))))) | exact .there (.there (.there (.there (.there (.there (.there (.there (.here))))))))))) rfl ?_)
                  rintro _ w ⟨rfl, hw⟩; replace hS := hS.bel hw
                  rw [first_has hkl]
                  refine WL.op rfl (opW.not rfl ?_)
                  refine WL.nil ?_
                  refine thenQ_n (hK33 _ _ ?_)
                  refine WC.cond _ rfl (fun hc9 => ?_) (fun hc9 => ?_)
                  ·
                    have hr9 := hc9
                    try simp only [decide_eq_true_eq, decide_eq_false_iff_not, Bool.and_eq_true, Bool.or_eq_true, Bool.and_eq_false_iff, Bool.or_eq_false_iff, Bool.not_eq_true', Bool.not_eq_false', Int.not_lt, Int.not_le] at hc9
                    exact absurd hr9 (by decide)
                  ·
                    have hr9 := hc9
                    try simp only [decide_eq_true_eq, decide_eq_false_iff_not, Bool.and_eq_true, Bool.or_eq_true, Bool.and_eq_false_iff, Bool.or_eq_false_iff, Bool.not_eq_true', Bool.not_eq_false', Int.not_lt, Int.not_le] at hc9
                    refine WC.skip ?_
                    refine blockQ_n ?_
                    refine thenQ_n (hK30 _ _ ?_)
                    refine WC.region ?_
                    refine WL.op rfl (opW.moveI rfl ?_)
                    refine WL.op rfl (opW.add rfl rfl (wrap_i64 (by omega)) ?_)
                    refine WL.op rfl (opW.assignI rfl ?_)
                    refine WL.nil ?_
                    refine thenQ_n ?_
                    first | (rw [if_pos (show decide (fs[k2].h = h) = true from hr8)] at hst; exact ⟨fs.length - (k2 + 1), by omega, k2 + 1, ⟨rfl, rfl, rfl, congrArg (Value.int .i64) (by rw [hst]), congrArg (Value.int .i64) (by omega), trivial⟩, hS, by omega, rfl⟩) | (rw [if_neg (show ¬ decide (fs[k2].h = h) = true from by rw [hr8]; decide)] at hst; exact ⟨fs.length - (k2 + 1), by omega, k2 + 1, ⟨rfl, rfl, rfl, congrArg (Value.int .i64) (by rw [hst]; simp), congrArg (Value.int .i64) (by omega), trivial⟩, hS, by omega, rfl⟩)
                ·
                  have hr8 := hc8
                  try simp only [decide_eq_true_eq, decide_eq_false_iff_not, Bool.and_eq_true, Bool.or_eq_true, Bool.and_eq_false_iff, Bool.or_eq_false_iff, Bool.not_eq_true', Bool.not_eq_false', Int.not_lt, Int.not_le] at hc8
                  refine WC.skip ?_
                  refine thenQ_n (hK31 _ _ ?_)
                  refine WC.seq (fun K34 hK34 => ?_)
                  refine WC.region ?_
                  refine WL.op rfl (opW.moveV (v := .pointer (some ⟨p, 0, none⟩)) rfl ?_)
                  refine WL.op rfl (opW.moveV (v := vf) rfl ?_)
                  refine WL.op rfl (opW.moveI rfl ?_)
                  refine WL.op rfl (opW.idxV rfl ((hS.sl (xs := fs) (by first | exact .here | exact .there (.here) | exact .there (.there (.here)) | exact .there (.there (.there (.here))) | exact .there (.there (.there (.there (.here)))) | exact .there (.there (.there (.there (.there (.here))))) | exact .there (.there (.there (.there (.there (.there (.here)))))) | exact .there (.there (.there (.there (.there (.there (.there (.here))))))) | exact .there (.there (.there (.there (.there (.there (.there (.there (.here))))))))))) rfl (by omega) ?_)
                  refine WL.op rfl (opW.fieldAddr rfl ((hS.sl (xs := fs) (by first | exact .here | exact .there (.here) | exact .there (.there (.here)) | exact .there (.there (.there (.here))) | exact .there (.there (.there (.there (.here)))) | exact .there (.there (.there (.there (.there (.here))))) | exact .there (.there (.there (.there (.there (.there (.here)))))) | exact .there (.there (.there (.there (.there (.there (.there (.here))))))) | exact .there (.there (.there (.there (.there (.there (.there (.there (.here)))))))))).isP hkl) ?_)
                  refine WL.op rfl (opW.loadV rfl (Ld.ptA ((hS.sl (xs := fs) (by first | exact .here | exact .there (.here) | exact .there (.there (.here)) | exact .there (.there (.there (.here))) | exact .there (.there (.there (.there (.here)))) | exact .there (.there (.there (.there (.there (.here))))) | exact .there (.there (.there (.there (.there (.there (.here)))))) | exact .there (.there (.there (.there (.there (.there (.there (.here))))))) | exact .there (.there (.there (.there (.there (.there (.there (.there (.here)))))))))).isPt hkl) 1 (Act.ex_g _) (by rw [Enc.size_eq]; decide)) ?_)
                  refine WL.op rfl (opW.call (has_ok _ p d (pairs fs) fs[k2].g (hS.seAt (by first | exact .here | exact .there (.here) | exact .there (.there (.here)) | exact .there (.there (.there (.here))) | exact .there (.there (.there (.there (.here)))) | exact .there (.there (.there (.there (.there (.here))))) | exact .there (.there (.there (.there (.there (.there (.here)))))) | exact .there (.there (.there (.there (.there (.there (.there (.here))))))) | exact .there (.there (.there (.there (.there (.there (.there (.there (.here))))))))))) rfl ?_)
                  rintro _ w ⟨rfl, hw⟩; replace hS := hS.bel hw
                  rw [first_has hkl]
                  refine WL.op rfl (opW.not rfl ?_)
                  refine WL.nil ?_
                  refine thenQ_n (hK34 _ _ ?_)
                  refine WC.cond _ rfl (fun hc9 => ?_) (fun hc9 => ?_)
                  ·
                    have hr9 := hc9
                    try simp only [decide_eq_true_eq, decide_eq_false_iff_not, Bool.and_eq_true, Bool.or_eq_true, Bool.and_eq_false_iff, Bool.or_eq_false_iff, Bool.not_eq_true', Bool.not_eq_false', Int.not_lt, Int.not_le] at hc9
                    exact absurd hr9 (by decide)
                  ·
                    have hr9 := hc9
                    try simp only [decide_eq_true_eq, decide_eq_false_iff_not, Bool.and_eq_true, Bool.or_eq_true, Bool.and_eq_false_iff, Bool.or_eq_false_iff, Bool.not_eq_true', Bool.not_eq_false', Int.not_lt, Int.not_le] at hc9
                    refine WC.skip ?_
                    refine blockQ_n ?_
                    refine thenQ_n (hK30 _ _ ?_)
                    refine WC.region ?_
                    refine WL.op rfl (opW.moveI rfl ?_)
                    refine WL.op rfl (opW.add rfl rfl (wrap_i64 (by omega)) ?_)
                    refine WL.op rfl (opW.assignI rfl ?_)
                    refine WL.nil ?_
                    refine thenQ_n ?_
                    first | (rw [if_pos (show decide (fs[k2].h = h) = true from hr8)] at hst; exact ⟨fs.length - (k2 + 1), by omega, k2 + 1, ⟨rfl, rfl, rfl, congrArg (Value.int .i64) (by rw [hst]), congrArg (Value.int .i64) (by omega), trivial⟩, hS, by omega, rfl⟩) | (rw [if_neg (show ¬ decide (fs[k2].h = h) = true from by rw [hr8]; decide)] at hst; exact ⟨fs.length - (k2 + 1), by omega, k2 + 1, ⟨rfl, rfl, rfl, congrArg (Value.int .i64) (by rw [hst]; simp), congrArg (Value.int .i64) (by omega), trivial⟩, hS, by omega, rfl⟩)
              ·
                have hr7 := hc7
                try simp only [decide_eq_true_eq, decide_eq_false_iff_not, Bool.and_eq_true, Bool.or_eq_true, Bool.and_eq_false_iff, Bool.or_eq_false_iff, Bool.not_eq_true', Bool.not_eq_false', Int.not_lt, Int.not_le] at hc7
                have hkk : k2 = fs.length := by omega
                subst hkk
                rw [List.take_length]
                have hcl := List.countP_le_length (p := fun a : Act => decide (a.h = h)) (l := fs)
                have hfo := forget_len fs h
                refine WC.exit ?_
                refine thenQ_e ?_
                refine thenQ_e ?_
                refine blockQ_hit ?_
                refine thenQ_n (hK26 _ _ ?_)
                refine WC.seq (fun K35 hK35 => ?_)
                refine WC.seq (fun K36 hK36 => ?_)
                refine WC.region ?_
                refine WL.op rfl (opW.moveV (v := .pointer (some ⟨p, 0, none⟩)) rfl ?_)
                refine WL.op rfl (opW.call (len_ok _ p d (pairs fs) (hS.seAt (by first | exact .here | exact .there (.here) | exact .there (.there (.here)) | exact .there (.there (.there (.here))) | exact .there (.there (.there (.there (.here)))) | exact .there (.there (.there (.there (.there (.here))))) | exact .there (.there (.there (.there (.there (.there (.here)))))) | exact .there (.there (.there (.there (.there (.there (.there (.here))))))) | exact .there (.there (.there (.there (.there (.there (.there (.there (.here))))))))))) rfl ?_)
                rintro _ w ⟨rfl, hw⟩; replace hS := hS.bel hw
                refine WL.op rfl (opW.moveV (v := vf) rfl ?_)
                refine WL.op rfl (opW.lenV rfl ((hS.sl (xs := fs) (by first | exact .here | exact .there (.here) | exact .there (.there (.here)) | exact .there (.there (.there (.here))) | exact .there (.there (.there (.there (.here)))) | exact .there (.there (.there (.there (.there (.here))))) | exact .there (.there (.there (.there (.there (.there (.here)))))) | exact .there (.there (.there (.there (.there (.there (.there (.here))))))) | exact .there (.there (.there (.there (.there (.there (.there (.there (.here))))))))))) ?_)
                refine WL.op rfl (opW.boolF (by simp [pairs]) (opW.neq rfl rfl ⟨rfl, rfl⟩) ?_)
                refine WL.op rfl (opW.moveB rfl ?_)
                refine WL.gT 99 rfl rfl rfl (WL.op rfl (opW.moveV (v := .pointer (some ⟨p, 0, none⟩)) rfl ?_))
                refine WL.gT 99 rfl rfl rfl (WL.op rfl (opW.loadV rfl (hS.ldA (cs := Enc.enc h) (by first | exact .here | exact .there (.here) | exact .there (.there (.here)) | exact .there (.there (.there (.here))) | exact .there (.there (.there (.there (.here)))) | exact .there (.there (.there (.there (.there (.here))))) | exact .there (.there (.there (.there (.there (.there (.here)))))) | exact .there (.there (.there (.there (.there (.there (.there (.here))))))) | exact .there (.there (.there (.there (.there (.there (.there (.there (.here))))))))) (Enc.size_eq _)) ?_))
                refine WL.gT 99 rfl rfl rfl (WL.op rfl (opW.call (forget_ok _ _ _ p d (pairs fs) h (hS.pick (by first | exact .here | exact .there (.here) | exact .there (.there (.here)) | exact .there (.there (.there (.here))) | exact .there (.there (.there (.there (.here)))) | exact .there (.there (.there (.there (.there (.here))))) | exact .there (.there (.there (.there (.there (.there (.here)))))) | exact .there (.there (.there (.there (.there (.there (.there (.here))))))) | exact .there (.there (.there (.there (.there (.there (.there (.there (.here)))))))))) hd) rfl ?_))
                rintro _ w ⟨d3, rfl, hd3, hS⟩
                refine WL.gT 99 rfl rfl rfl (WL.op rfl (opW.moveI rfl ?_))
                refine WL.gT 99 rfl rfl rfl (WL.op rfl (opW.boolF (by rw [ofH_pairs]; simp) (opW.neq rfl rfl ⟨rfl, rfl⟩) ?_))
                refine WL.op rfl (opW.pickT rfl rfl ?_)
                refine WL.op rfl (opW.moveB rfl ?_)
                refine WL.gT 106 rfl rfl rfl (WL.op rfl (opW.moveV (v := .pointer (some ⟨p, 0, none⟩)) rfl ?_))
                refine WL.gT 106 rfl rfl rfl (WL.op rfl (opW.loadV rfl (hS.ldA (cs := Enc.enc h) (by first | exact .here | exact .there (.here) | exact .there (.there (.here)) | exact .there (.there (.there (.here))) | exact .there (.there (.there (.there (.here)))) | exact .there (.there (.there (.there (.there (.here))))) | exact .there (.there (.there (.there (.there (.there (.here)))))) | exact .there (.there (.there (.there (.there (.there (.there (.here))))))) | exact .there (.there (.there (.there (.there (.there (.there (.there (.here))))))))) (Enc.size_eq _)) ?_))
                refine WL.gT 106 rfl rfl rfl (WL.op rfl (opW.call (forget_ok _ _ _ p d3 (forgetL (pairs fs) h) h (hS.pick (by first | exact .here | exact .there (.here) | exact .there (.there (.here)) | exact .there (.there (.there (.here))) | exact .there (.there (.there (.there (.here)))) | exact .there (.there (.there (.there (.there (.here))))) | exact .there (.there (.there (.there (.there (.there (.here)))))) | exact .there (.there (.there (.there (.there (.there (.there (.here))))))) | exact .there (.there (.there (.there (.there (.there (.there (.there (.here)))))))))) hd3) rfl ?_))
                rintro _ w ⟨d4, rfl, hd4, hS⟩
                rw [forget_twice] at hd4 hS
                rw [ofH_forget]
                refine WL.gT 106 rfl rfl rfl (WL.op rfl (opW.boolF (by decide) (opW.neq rfl rfl ⟨rfl, rfl⟩) ?_))
                refine WL.op rfl (opW.pickT rfl rfl ?_)
                refine WL.op rfl (opW.moveB rfl ?_)
                refine WL.gT 112 rfl rfl rfl (WL.op rfl (opW.moveV (v := .pointer (some ⟨p, 0, none⟩)) rfl ?_))
                refine WL.gT 112 rfl rfl rfl (WL.op rfl (opW.call (len_ok _ p d4 (forgetL (pairs fs) h) (hS.seAt (by first | exact .here | exact .there (.here) | exact .there (.there (.here)) | exact .there (.there (.there (.here))) | exact .there (.there (.there (.there (.here)))) | exact .there (.there (.there (.there (.there (.here))))) | exact .there (.there (.there (.there (.there (.there (.here)))))) | exact .there (.there (.there (.there (.there (.there (.there (.here))))))) | exact .there (.there (.there (.there (.there (.there (.there (.there (.here))))))))))) rfl ?_))
                rintro _ w ⟨rfl, hw⟩; replace hS := hS.bel hw
                refine WL.gT 112 rfl rfl rfl (WL.op rfl (opW.moveV (v := vf) rfl ?_))
                refine WL.gT 112 rfl rfl rfl (WL.op rfl (opW.lenV rfl ((hS.sl (xs := fs) (by first | exact .here | exact .there (.here) | exact .there (.there (.here)) | exact .there (.there (.there (.here))) | exact .there (.there (.there (.there (.here)))) | exact .there (.there (.there (.there (.there (.here))))) | exact .there (.there (.there (.there (.there (.there (.here)))))) | exact .there (.there (.there (.there (.there (.there (.there (.here))))))) | exact .there (.there (.there (.there (.there (.there (.there (.there (.here))))))))))) ?_))
                refine WL.gT 112 rfl rfl rfl (WL.op rfl (opW.moveI rfl ?_))
                refine WL.gT 112 rfl rfl rfl (WL.op rfl (opW.sub rfl rfl (wrap_i64 (by omega)) ?_))
                refine WL.gT 112 rfl rfl rfl (WL.op rfl (opW.boolF (by simp; omega) (opW.neq rfl rfl ⟨rfl, rfl⟩) ?_))
                refine WL.op rfl (opW.pickT rfl rfl ?_)
                refine WL.nil ?_
                refine thenQ_n (hK36 _ _ ?_)
                refine WC.cond _ rfl (fun hc10 => ?_) (fun hc10 => ?_)
                ·
                  have hr10 := hc10
                  try simp only [decide_eq_true_eq, decide_eq_false_iff_not, Bool.and_eq_true, Bool.or_eq_true, Bool.and_eq_false_iff, Bool.or_eq_false_iff, Bool.not_eq_true', Bool.not_eq_false', Int.not_lt, Int.not_le] at hc10
                  exact absurd hr10 (by decide)
                ·
                  have hr10 := hc10
                  try simp only [decide_eq_true_eq, decide_eq_false_iff_not, Bool.and_eq_true, Bool.or_eq_true, Bool.and_eq_false_iff, Bool.or_eq_false_iff, Bool.not_eq_true', Bool.not_eq_false', Int.not_lt, Int.not_le] at hc10
                  refine WC.skip ?_
                  refine thenQ_n (hK35 _ _ ?_)
                  refine WC.seq (fun K37 hK37 => ?_)
                  refine WC.seq (fun K38 hK38 => ?_)
                  refine WC.region ?_
                  refine WL.op rfl (opW.assignI rfl ?_)
                  refine WL.nil ?_
                  refine thenQ_n (hK38 _ _ ?_)
                  refine WC.block ?_
                  refine WC.loop (fun q f w => ∃ (k3 : Nat) (d : SeD), Fits [(3, .pointer (some ⟨b3, 0, none⟩)), (5, .pointer (some ⟨p, 0, none⟩)), (6, vf), (13, .int .i64 (k3 : Int))] f ∧ St w0 [seE p d (stL fs h k3), ownE vf 33 fs, blkE b3 (Enc.enc h) 24] w ∧ SeIs (stL fs h k3) d ∧ k3 ≤ fs.length ∧ q = fs.length - k3) (fs.length) ?_ ?_
                  ·
                    exact ⟨0, d4, ⟨rfl, rfl, rfl, rfl, trivial⟩, by rw [stL_zero]; exact hS, by rw [stL_zero]; exact hd4, Nat.zero_le _, rfl⟩
                  ·
                    rintro q f w ⟨k3, d, hfit, hS, hd, hk30, hm⟩
                    refine WC.fits _ hfit (fun g => ?_)
                    clear hfit
                    refine WC.seq (fun K39 hK39 => ?_)
                    refine WC.seq (fun K40 hK40 => ?_)
                    refine WC.region ?_
                    refine WL.op rfl (opW.moveI rfl ?_)
                    refine WL.op rfl (opW.moveV (v := vf) rfl ?_)
                    refine WL.op rfl (opW.lenV rfl ((hS.sl (xs := fs) (by first | exact .here | exact .there (.here) | exact .there (.there (.here)) | exact .there (.there (.there (.here))) | exact .there (.there (.there (.there (.here)))) | exact .there (.there (.there (.there (.there (.here))))) | exact .there (.there (.there (.there (.there (.there (.here)))))) | exact .there (.there (.there (.there (.there (.there (.there (.here))))))) | exact .there (.there (.there (.there (.there (.there (.there (.there (.here))))))))))) ?_)
                    refine WL.op rfl (opW.lss rfl rfl ?_)
                    refine WL.nil ?_
                    refine thenQ_n (hK40 _ _ ?_)
                    refine WC.cond _ rfl (fun hc11 => ?_) (fun hc11 => ?_)
                    ·
                      have hr11 := hc11
                      try simp only [decide_eq_true_eq, decide_eq_false_iff_not, Bool.and_eq_true, Bool.or_eq_true, Bool.and_eq_false_iff, Bool.or_eq_false_iff, Bool.not_eq_true', Bool.not_eq_false', Int.not_lt, Int.not_le] at hc11
                      have hkl : k3 < fs.length := by omega
                      have hsl := stL_le fs h k3
                      have hsh := stL_has (h := h) hnd hkl
                      refine WC.skip ?_
                      refine thenQ_n (hK39 _ _ ?_)
                      refine WC.seq (fun K41 hK41 => ?_)
                      refine WC.block ?_
                      refine WC.seq (fun K42 hK42 => ?_)
                      refine WC.region ?_
                      refine WL.op rfl (opW.moveV (v := vf) rfl ?_)
                      refine WL.op rfl (opW.moveI rfl ?_)
                      refine WL.op rfl (opW.idxV rfl ((hS.sl (xs := fs) (by first | exact .here | exact .there (.here) | exact .there (.there (.here)) | exact .there (.there (.there (.here))) | exact .there (.there (.there (.there (.here)))) | exact .there (.there (.there (.there (.there (.here))))) | exact .there (.there (.there (.there (.there (.there (.here)))))) | exact .there (.there (.there (.there (.there (.there (.there (.here))))))) | exact .there (.there (.there (.there (.there (.there (.there (.there (.here))))))))))) rfl (by omega) ?_)
                      refine WL.op rfl (opW.loadV rfl (((hS.sl (xs := fs) (by first | exact .here | exact .there (.here) | exact .there (.there (.here)) | exact .there (.there (.there (.here))) | exact .there (.there (.there (.there (.here)))) | exact .there (.there (.there (.there (.there (.here))))) | exact .there (.there (.there (.there (.there (.there (.here)))))) | exact .there (.there (.there (.there (.there (.there (.there (.here))))))) | exact .there (.there (.there (.there (.there (.there (.there (.there (.here)))))))))).isPt hkl).ldA (Enc.size_eq fs[k3])) ?_)
                      refine WL.op rfl (opW.allocA hS ?_)
                      intro b14 w _ hS
                      refine WL.op0 (opW.storeE hS rfl rfl (by first | exact .here | exact .there (.here) | exact .there (.there (.here)) | exact .there (.there (.there (.here))) | exact .there (.there (.there (.there (.here)))) | exact .there (.there (.there (.there (.there (.here))))) | exact .there (.there (.there (.there (.there (.there (.here)))))) | exact .there (.there (.there (.there (.there (.there (.there (.here))))))) | exact .there (.there (.there (.there (.there (.there (.there (.there (.here))))))))) (by first | rfl | exact Enc.size_eq _) ?_)
                      intro w hS; replace hS := hS _ (by first | exact .here | exact .there (.here) | exact .there (.there (.here)) | exact .there (.there (.there (.here))) | exact .there (.there (.there (.there (.here)))) | exact .there (.there (.there (.there (.there (.here))))) | exact .there (.there (.there (.there (.there (.there (.here)))))) | exact .there (.there (.there (.there (.there (.there (.there (.here))))))) | exact .there (.there (.there (.there (.there (.there (.there (.there (.here)))))))))
                      refine WL.nil ?_
                      refine thenQ_n (hK42 _ _ ?_)
                      refine WC.seq (fun K43 hK43 => ?_)
                      refine WC.drawI 22 [(0, .look), (1, .look), (2, .look), (4, .look), (5, .look), (6, .look), (7, .look), (3, .one), (8, .look), (9, .look), (10, .look), (11, .look), (12, .look), (13, .look), (16, .look), (17, .look), (18, .look), (19, .look), (14, .one), (15, .look), (20, .look), (21, .look)] (by kernel_rfl) (fun _ _ _ h => h) (fun w1 hw1 => ?_)
                      replace hS := hS.bel hw1
                      have hS1 := hS
                      refine ⟨fun w => St w0 [blkE b14 (Enc.enc fs[k3]) 33, blkE b3 (Enc.enc h) 24] w, hS.sub (by repeat (first | with_reducible exact List.nil_sublist _ | with_reducible exact List.Sublist.refl _ | with_reducible refine List.Sublist.cons₂ _ ?_ | with_reducible refine List.Sublist.cons _ ?_)), ?_⟩
                      refine ML.look rfl rfl rfl (fun w hw => (by have hS := hw; exact opW.moveV (v := .pointer (some ⟨p, 0, none⟩)) rfl ⟨rfl, rfl⟩)) ?_
                      refine ML.look rfl rfl rfl (fun w hw => (by have hS := hw; exact opW.fieldAddrB rfl ⟨rfl, rfl⟩)) ?_
                      refine ML.look rfl rfl rfl (fun w hw => (by have hS := hw; exact opW.loadV rfl (hS.ldF (o := 1) (by first | exact .here | exact .there (.here) | exact .there (.there (.here)) | exact .there (.there (.there (.here))) | exact .there (.there (.there (.there (.here)))) | exact .there (.there (.there (.there (.there (.here))))) | exact .there (.there (.there (.there (.there (.there (.here)))))) | exact .there (.there (.there (.there (.there (.there (.there (.here))))))) | exact .there (.there (.there (.there (.there (.there (.there (.there (.here))))))))) (Act.ex_g _) (by rw [Enc.size_eq]; decide)) ⟨rfl, rfl⟩)) ?_
                      refine ML.look rfl rfl rfl (fun w hw => (by have hS := hw; exact opW.fieldAddrB rfl ⟨rfl, rfl⟩)) ?_
                      refine ML.look rfl rfl rfl (fun w hw => (by have hS := hw; exact opW.loadV rfl (hS.ldF (o := 65) (by first | exact .here | exact .there (.here) | exact .there (.there (.here)) | exact .there (.there (.there (.here))) | exact .there (.there (.there (.there (.here)))) | exact .there (.there (.there (.there (.there (.here))))) | exact .there (.there (.there (.there (.there (.there (.here)))))) | exact .there (.there (.there (.there (.there (.there (.there (.here))))))) | exact .there (.there (.there (.there (.there (.there (.there (.there (.here))))))))) (Act.ex_h _) (by rw [Enc.size_eq]; decide)) ⟨rfl, rfl⟩)) ?_
                      refine ML.look rfl rfl rfl (fun w hw => (by have hS := hw; exact opW.loadV rfl (hS.ldA (cs := Enc.enc h) (by first | exact .here | exact .there (.here) | exact .there (.there (.here)) | exact .there (.there (.there (.here))) | exact .there (.there (.there (.there (.here)))) | exact .there (.there (.there (.there (.there (.here))))) | exact .there (.there (.there (.there (.there (.there (.here)))))) | exact .there (.there (.there (.there (.there (.there (.there (.here))))))) | exact .there (.there (.there (.there (.there (.there (.there (.there (.here))))))))) (Enc.size_eq _)) ⟨rfl, rfl⟩)) ?_
                      refine ML.look rfl rfl rfl (fun w hw => (by have hS := hw; exact opW.neqE (a := fs[k3].h) (b := h) rfl rfl ⟨rfl, rfl⟩)) ?_
                      refine ML.one rfl rfl rfl (opW.call (has_ok _ p d (stL fs h k3) fs[k3].g (hS.seAt (by first | exact .here | exact .there (.here) | exact .there (.there (.here)) | exact .there (.there (.there (.here))) | exact .there (.there (.there (.there (.here)))) | exact .there (.there (.there (.there (.there (.here))))) | exact .there (.there (.there (.there (.there (.there (.here)))))) | exact .there (.there (.there (.there (.there (.there (.there (.here))))))) | exact .there (.there (.there (.there (.there (.there (.there (.there (.here))))))))))) rfl ?_)
                      rintro _ w ⟨rfl, hw⟩; replace hS := hS.bel hw
                      rw [hsh]
                      refine ⟨hS.sub (by repeat (first | with_reducible exact List.nil_sublist _ | with_reducible exact List.Sublist.refl _ | with_reducible refine List.Sublist.cons₂ _ ?_ | with_reducible refine List.Sublist.cons _ ?_)), ?_⟩
                      refine ML.look rfl rfl rfl (fun w hw => (by have hS := hw; exact opW.boolF (by simp) (opW.neqB rfl rfl ⟨rfl, rfl⟩) ⟨rfl, rfl⟩)) ?_
                      refine ML.look rfl rfl rfl (fun w hw => (by have hS := hw; exact opW.moveB rfl ⟨rfl, rfl⟩)) ?_
                      refine ML.lookT 140 rfl rfl rfl rfl rfl rfl (fun w hw => (by have hS := hw; exact opW.moveV (v := .pointer (some ⟨p, 0, none⟩)) rfl ⟨rfl, rfl⟩)) ?_
                      refine ML.lookT 140 rfl rfl rfl rfl rfl rfl (fun w hw => (by have hS := hw; exact opW.fieldAddrB rfl ⟨rfl, rfl⟩)) ?_
                      refine ML.lookT 140 rfl rfl rfl rfl rfl rfl (fun w hw => (by have hS := hw; exact opW.loadV rfl (hS.ldF (o := 1) (by first | exact .here | exact .there (.here) | exact .there (.there (.here)) | exact .there (.there (.there (.here))) | exact .there (.there (.there (.there (.here)))) | exact .there (.there (.there (.there (.there (.here))))) | exact .there (.there (.there (.there (.there (.there (.here)))))) | exact .there (.there (.there (.there (.there (.there (.there (.here))))))) | exact .there (.there (.there (.there (.there (.there (.there (.there (.here))))))))) (Act.ex_g _) (by rw [Enc.size_eq]; decide)) ⟨rfl, rfl⟩)) ?_
                      refine ML.lookT 140 rfl rfl rfl rfl rfl rfl (fun w hw => (by have hS := hw; exact opW.loadV rfl (hS.ldA (cs := Enc.enc h) (by first | exact .here | exact .there (.here) | exact .there (.there (.here)) | exact .there (.there (.there (.here))) | exact .there (.there (.there (.there (.here)))) | exact .there (.there (.there (.there (.there (.here))))) | exact .there (.there (.there (.there (.there (.there (.here)))))) | exact .there (.there (.there (.there (.there (.there (.there (.here))))))) | exact .there (.there (.there (.there (.there (.there (.there (.there (.here))))))))) (Enc.size_eq _)) ⟨rfl, rfl⟩)) ?_
                      refine ML.lookT 140 rfl rfl rfl rfl rfl rfl (fun w hw => (by have hS := hw; exact opW.fieldAddrB rfl ⟨rfl, rfl⟩)) ?_
                      refine ML.lookT 140 rfl rfl rfl rfl rfl rfl (fun w hw => (by have hS := hw; exact opW.loadV rfl (hS.ldF (o := 65) (by first | exact .here | exact .there (.here) | exact .there (.there (.here)) | exact .there (.there (.there (.here))) | exact .there (.there (.there (.there (.here)))) | exact .there (.there (.there (.there (.there (.here))))) | exact .there (.there (.there (.there (.there (.there (.here)))))) | exact .there (.there (.there (.there (.there (.there (.there (.here))))))) | exact .there (.there (.there (.there (.there (.there (.there (.there (.here))))))))) (Act.ex_h _) (by rw [Enc.size_eq]; decide)) ⟨rfl, rfl⟩)) ?_
                      refine ML.lookT 140 rfl rfl rfl rfl rfl rfl (fun w hw => (by have hS := hw; exact opW.loadV rfl (hS.ldA (cs := Enc.enc h) (by first | exact .here | exact .there (.here) | exact .there (.there (.here)) | exact .there (.there (.there (.here))) | exact .there (.there (.there (.there (.here)))) | exact .there (.there (.there (.there (.there (.here))))) | exact .there (.there (.there (.there (.there (.there (.here)))))) | exact .there (.there (.there (.there (.there (.there (.there (.here))))))) | exact .there (.there (.there (.there (.there (.there (.there (.there (.here))))))))) (Enc.size_eq _)) ⟨rfl, rfl⟩)) ?_
                      refine ML.lookT 140 rfl rfl rfl rfl rfl rfl (fun w hw => (by have hS := hw; exact opW.eqlE (a := fs[k3].h) (b := h) rfl rfl ⟨rfl, rfl⟩)) ?_
                      refine ML.oneT 140 rfl rfl rfl rfl rfl rfl (opW.call (mark_ok _ _ _ p d (stL fs h k3) fs[k3].g h (hS.pick (by first | exact .here | exact .there (.here) | exact .there (.there (.here)) | exact .there (.there (.there (.here))) | exact .there (.there (.there (.there (.here)))) | exact .there (.there (.there (.there (.there (.here))))) | exact .there (.there (.there (.there (.there (.there (.here)))))) | exact .there (.there (.there (.there (.there (.there (.there (.here))))))) | exact .there (.there (.there (.there (.there (.there (.there (.there (.here)))))))))) hd (by omega)) rfl ?_)
                      rintro _ w ⟨d2, rfl, hd2, hS⟩
                      rw [stL_mark hnd hkl] at hd2 hS
                      rw [hsh]
                      refine ⟨hS.sub (by repeat (first | with_reducible exact List.nil_sublist _ | with_reducible exact List.Sublist.refl _ | with_reducible refine List.Sublist.cons₂ _ ?_ | with_reducible refine List.Sublist.cons _ ?_)), ?_⟩
                      refine ML.lookT 140 rfl rfl rfl rfl rfl rfl (fun w hw => (by have hS := hw; exact opW.eql rfl rfl ⟨rfl, rfl⟩)) ?_
                      refine ML.lookT 140 rfl rfl rfl rfl rfl rfl (fun w hw => (by have hS := hw; exact opW.boolF (by by_cases e : fs[k3].h = h <;> simp [e]) (opW.neqB rfl rfl ⟨rfl, rfl⟩) ⟨rfl, rfl⟩)) ?_
                      refine ML.look rfl rfl rfl (fun w hw => (by have hS := hw; exact opW.pickT rfl rfl ⟨rfl, rfl⟩)) ?_
                      refine ML.nil ?_
                      refine thenQ_n (hK43 _ _ ?_)
                      refine WC.cond _ rfl (fun hc12 => ?_) (fun hc12 => ?_)
                      ·
                        have hr12 := hc12
                        try simp only [decide_eq_true_eq, decide_eq_false_iff_not, Bool.and_eq_true, Bool.or_eq_true, Bool.and_eq_false_iff, Bool.or_eq_false_iff, Bool.not_eq_true', Bool.not_eq_false', Int.not_lt, Int.not_le] at hc12
                        exact absurd hr12 (by decide)
                      ·
                        have hr12 := hc12
                        try simp only [decide_eq_true_eq, decide_eq_false_iff_not, Bool.and_eq_true, Bool.or_eq_true, Bool.and_eq_false_iff, Bool.or_eq_false_iff, Bool.not_eq_true', Bool.not_eq_false', Int.not_lt, Int.not_le] at hc12
                        refine WC.skip ?_
                        refine blockQ_n ?_
                        refine thenQ_n (hK41 _ _ ?_)
                        refine WC.region ?_
                        refine WL.op rfl (opW.moveI rfl ?_)
                        refine WL.op rfl (opW.add rfl rfl (wrap_i64 (by omega)) ?_)
                        refine WL.op rfl (opW.assignI rfl ?_)
                        refine WL.nil ?_
                        refine thenQ_n ?_
                        exact ⟨fs.length - (k3 + 1), by omega, k3 + 1, d2, ⟨rfl, rfl, rfl, congrArg (Value.int .i64) (by omega), trivial⟩, hS.sub (by repeat (first | with_reducible exact List.nil_sublist _ | with_reducible exact List.Sublist.refl _ | with_reducible refine List.Sublist.cons₂ _ ?_ | with_reducible refine List.Sublist.cons _ ?_)), hd2, by omega, rfl⟩
                    ·
                      have hr11 := hc11
                      try simp only [decide_eq_true_eq, decide_eq_false_iff_not, Bool.and_eq_true, Bool.or_eq_true, Bool.and_eq_false_iff, Bool.or_eq_false_iff, Bool.not_eq_true', Bool.not_eq_false', Int.not_lt, Int.not_le] at hc11
                      have hkk : k3 = fs.length := by omega
                      subst hkk
                      refine WC.exit ?_
                      refine thenQ_e ?_
                      refine thenQ_e ?_
                      refine blockQ_hit ?_
                      refine thenQ_n (hK37 _ _ ?_)
                      refine WC.seq (fun K44 hK44 => ?_)
                      refine WC.region ?_
                      refine WL.op rfl (opW.moveV (v := .pointer (some ⟨p, 0, none⟩)) rfl ?_)
                      refine WL.op rfl (opW.call (len_ok _ p d (stL fs h fs.length) (hS.seAt (by first | exact .here | exact .there (.here) | exact .there (.there (.here)) | exact .there (.there (.there (.here))) | exact .there (.there (.there (.there (.here)))) | exact .there (.there (.there (.there (.there (.here))))) | exact .there (.there (.there (.there (.there (.there (.here)))))) | exact .there (.there (.there (.there (.there (.there (.there (.here))))))) | exact .there (.there (.there (.there (.there (.there (.there (.there (.here))))))))))) rfl ?_)
                      rintro _ w ⟨rfl, hw⟩; replace hS := hS.bel hw
                      refine WL.op rfl (opW.moveV (v := vf) rfl ?_)
                      refine WL.op rfl (opW.lenV rfl ((hS.sl (xs := fs) (by first | exact .here | exact .there (.here) | exact .there (.there (.here)) | exact .there (.there (.there (.here))) | exact .there (.there (.there (.there (.here)))) | exact .there (.there (.there (.there (.there (.here))))) | exact .there (.there (.there (.there (.there (.there (.here)))))) | exact .there (.there (.there (.there (.there (.there (.there (.here))))))) | exact .there (.there (.there (.there (.there (.there (.there (.there (.here))))))))))) ?_)
                      refine WL.op rfl (opW.boolT (by rw [stL_len]; simp) (opW.eql rfl rfl ⟨rfl, rfl⟩) ?_)
                      refine WL.op rfl (opW.moveB rfl ?_)
                      refine WL.gT 158 rfl rfl rfl (WL.op rfl (opW.call (lives25 _) rfl ?_))
                      rintro _ w ⟨rfl, hw⟩; replace hS := hS.bel hw
                      refine WL.op rfl (opW.pickT rfl rfl ?_)
                      refine WL.op rfl (opW.assignB rfl ?_)
                      refine WL.nil ?_
                      refine thenQ_n (hK44 _ _ ?_)
                      refine WC.ret ?_
                      refine bodyQ_ret (.tmpB rfl .nil) ?_
                      exact ⟨rfl, hS.old⟩

end Go.Fer
