/- lives -/
import Derived.Test.YtpaeddbfidmjbaaB
set_option linter.all false
namespace Go.Fer
open Go Go.Proofs Go.RowKit

theorem same_len {α : Type} {xs ys : List α} (h : xs ≠ ys ∨ True) : True := trivial
theorem take_all_eq {α : Type} {xs ys : List α} {k : Nat} (hl : xs.length = ys.length) (h : xs.take k = ys.take k) (hk : xs.length ≤ k) : xs = ys := by
  rw [List.take_of_length_le hk, List.take_of_length_le (by omega)] at h; exact h
theorem take_succ_eq {α : Type} {xs ys : List α} {k : Nat} (h : xs.take k = ys.take k) (h1 : k < xs.length) (h2 : k < ys.length) (he : xs[k] = ys[k]) : xs.take (k + 1) = ys.take (k + 1) := by
  rw [List.take_succ_eq_append_getElem h1, List.take_succ_eq_append_getElem h2, h, he]
theorem get_ne {α : Type} {xs ys : List α} {k : Nat} (h1 : k < xs.length) (h2 : k < ys.length) (he : xs[k] ≠ ys[k]) : xs ≠ ys := fun e => he (by subst e; rfl)

theorem same_k (w0 : World) (v u : Value) (xs ys : List Key) (hx : SlR w0 v xs) (hy : SlR w0 u ys) : Ret Try.prog 28 #[v, u] w0 (fun r w' => r = .bool (decide (xs = ys)) ∧ Bel w0 w') := by
  refine Ret.enter (args := [v, u]) Try.func28 rfl Try.ntmps28 Try.results28 rfl ?_
  have hS := St.start w0
  refine WC.seq (fun K1 hK1 => ?_)
  refine WC.region ?_
  refine WL.op rfl (opW.assignB rfl ?_)
  refine WL.nil ?_
  refine thenQ_n (hK1 _ _ ?_)
  refine WC.seq (fun K2 hK2 => ?_)
  refine WC.seq (fun K3 hK3 => ?_)
  refine WC.region ?_
  refine WL.op rfl (opW.moveV (v := v) rfl ?_)
  refine WL.op rfl (opW.lenV rfl ((hx.bel hS.old)) ?_)
  refine WL.op rfl (opW.moveV (v := u) rfl ?_)
  refine WL.op rfl (opW.lenV rfl ((hy.bel hS.old)) ?_)
  refine WL.op rfl (opW.neq rfl rfl ?_)
  refine WL.nil ?_
  refine thenQ_n (hK3 _ _ ?_)
  refine WC.cond _ rfl (fun hc0 => ?_) (fun hc0 => ?_)
  ·
    have hr0 := hc0
    try simp only [decide_eq_true_eq, decide_eq_false_iff_not, Bool.and_eq_true, Bool.or_eq_true, Bool.and_eq_false_iff, Bool.or_eq_false_iff, Bool.not_eq_true', Bool.not_eq_false', Int.not_lt, Int.not_le] at hc0
    refine WC.seq (fun K4 hK4 => ?_)
    refine WC.region ?_
    refine WL.op rfl (opW.assignB rfl ?_)
    refine WL.nil ?_
    refine thenQ_n (hK4 _ _ ?_)
    refine WC.ret ?_
    refine thenQ_r ?_
    refine bodyQ_ret (.tmpB rfl .nil) ?_
    refine ⟨?_, hS.old⟩
    rw [decide_eq_false (fun e => hc0 (by rw [e]))]
    rfl
  ·
    have hr0 := hc0
    try simp only [decide_eq_true_eq, decide_eq_false_iff_not, Bool.and_eq_true, Bool.or_eq_true, Bool.and_eq_false_iff, Bool.or_eq_false_iff, Bool.not_eq_true', Bool.not_eq_false', Int.not_lt, Int.not_le] at hc0
    have hlen : xs.length = ys.length := by omega
    refine WC.skip ?_
    refine thenQ_n (hK2 _ _ ?_)
    refine WC.seq (fun K5 hK5 => ?_)
    refine WC.seq (fun K6 hK6 => ?_)
    refine WC.region ?_
    refine WL.op rfl (opW.assignI rfl ?_)
    refine WL.nil ?_
    refine thenQ_n (hK6 _ _ ?_)
    refine WC.block ?_
    refine WC.loop (fun m f w => ∃ k : Nat, Fits [(0, v), (1, u), (5, .int .i64 (k : Int))] f ∧ St w0 [] w ∧ xs.take k = ys.take k ∧ m = xs.length - k) (xs.length) ?_ ?_
    ·
      exact ⟨0, ⟨rfl, rfl, rfl, trivial⟩, hS, rfl, rfl⟩
    ·
      rintro m f w ⟨k, hfit, hS, ht, hm⟩
      refine WC.fits _ hfit (fun g => ?_)
      clear hfit
      refine WC.seq (fun K7 hK7 => ?_)
      refine WC.seq (fun K8 hK8 => ?_)
      refine WC.region ?_
      refine WL.op rfl (opW.moveI rfl ?_)
      refine WL.op rfl (opW.moveV (v := v) rfl ?_)
      refine WL.op rfl (opW.lenV rfl ((hx.bel hS.old)) ?_)
      refine WL.op rfl (opW.lss rfl rfl ?_)
      refine WL.nil ?_
      refine thenQ_n (hK8 _ _ ?_)
      refine WC.cond _ rfl (fun hc1 => ?_) (fun hc1 => ?_)
      ·
        have hr1 := hc1
        try simp only [decide_eq_true_eq, decide_eq_false_iff_not, Bool.and_eq_true, Bool.or_eq_true, Bool.and_eq_false_iff, Bool.or_eq_false_iff, Bool.not_eq_true', Bool.not_eq_false', Int.not_lt, Int.not_le] at hc1
        have hk1 : k < xs.length := by omega
        have hk2 : k < ys.length := by omega
        have hle := hx.le
        simp only [maxLen] at hle
        refine WC.skip ?_
        refine thenQ_n (hK7 _ _ ?_)
        refine WC.seq (fun K9 hK9 => ?_)
        refine WC.block ?_
        refine WC.seq (fun K10 hK10 => ?_)
        refine WC.draw 9 (.look 0 (.look 1 (.look 2 (.look 3 (.look 4 (.look 5 (.look 6 (.look 7 (.look 8 .nil))))))))) (by kernel_rfl) (fun _ _ _ h => h) (fun w1 hw1 => ?_)
        replace hS := hS.bel hw1
        have hS1 := hS
        have hT := St.start w1
        refine ML.look rfl rfl rfl (fun w hw => (by have hS := hS1.bel hw; exact opW.moveV (v := v) rfl ⟨rfl, rfl⟩)) ?_
        refine ML.look rfl rfl rfl (fun w hw => (by have hS := hS1.bel hw; exact opW.moveI rfl ⟨rfl, rfl⟩)) ?_
        refine ML.look rfl rfl rfl (fun w hw => (by have hS := hS1.bel hw; exact opW.idxV rfl ((hx.bel hS.old)) rfl (by omega) ⟨rfl, rfl⟩)) ?_
        refine ML.look rfl rfl rfl (fun w hw => (by have hS := hS1.bel hw; exact opW.loadV rfl ((((hx.bel hS.old).isPt hk1).ldA (Enc.size_eq _))) ⟨rfl, rfl⟩)) ?_
        refine ML.look rfl rfl rfl (fun w hw => (by have hS := hS1.bel hw; exact opW.moveV (v := u) rfl ⟨rfl, rfl⟩)) ?_
        refine ML.look rfl rfl rfl (fun w hw => (by have hS := hS1.bel hw; exact opW.moveI rfl ⟨rfl, rfl⟩)) ?_
        refine ML.look rfl rfl rfl (fun w hw => (by have hS := hS1.bel hw; exact opW.idxV rfl ((hy.bel hS.old)) rfl (by omega) ⟨rfl, rfl⟩)) ?_
        refine ML.look rfl rfl rfl (fun w hw => (by have hS := hS1.bel hw; exact opW.loadV rfl ((((hy.bel hS.old).isPt hk2).ldA (Enc.size_eq _))) ⟨rfl, rfl⟩)) ?_
        refine ML.look rfl rfl rfl (fun w hw => (by have hS := hS1.bel hw; exact opW.neqE rfl rfl ⟨rfl, rfl⟩)) ?_
        refine ML.nil ?_
        refine thenQ_n (hK10 _ _ ?_)
        refine WC.cond _ rfl (fun hc2 => ?_) (fun hc2 => ?_)
        ·
          have hr2 := hc2
          try simp only [decide_eq_true_eq, decide_eq_false_iff_not, Bool.and_eq_true, Bool.or_eq_true, Bool.and_eq_false_iff, Bool.or_eq_false_iff, Bool.not_eq_true', Bool.not_eq_false', Int.not_lt, Int.not_le] at hc2
          refine WC.seq (fun K11 hK11 => ?_)
          refine WC.region ?_
          refine WL.op rfl (opW.assignB rfl ?_)
          refine WL.nil ?_
          refine thenQ_n (hK11 _ _ ?_)
          refine WC.ret ?_
          refine blockQ_r ?_
          refine thenQ_r ?_
          refine thenQ_r ?_
          refine blockQ_r ?_
          refine thenQ_r ?_
          refine bodyQ_ret (.tmpB rfl .nil) ?_
          refine ⟨?_, hS.old⟩
          rw [decide_eq_false (get_ne hk1 hk2 (hc2))]
          rfl
        ·
          have hr2 := hc2
          try simp only [decide_eq_true_eq, decide_eq_false_iff_not, Bool.and_eq_true, Bool.or_eq_true, Bool.and_eq_false_iff, Bool.or_eq_false_iff, Bool.not_eq_true', Bool.not_eq_false', Int.not_lt, Int.not_le] at hc2
          refine WC.skip ?_
          refine blockQ_n ?_
          refine thenQ_n (hK9 _ _ ?_)
          refine WC.region ?_
          refine WL.op rfl (opW.moveI rfl ?_)
          refine WL.op rfl (opW.add rfl rfl (wrap_i64 (by omega)) ?_)
          refine WL.op rfl (opW.assignI rfl ?_)
          refine WL.nil ?_
          refine thenQ_n ?_
          refine ⟨xs.length - (k + 1), by omega, k + 1, ⟨rfl, rfl, congrArg (Value.int .i64) (by omega), trivial⟩, hS, take_succ_eq ht hk1 hk2 (hc2), rfl⟩
      ·
        have hr1 := hc1
        try simp only [decide_eq_true_eq, decide_eq_false_iff_not, Bool.and_eq_true, Bool.or_eq_true, Bool.and_eq_false_iff, Bool.or_eq_false_iff, Bool.not_eq_true', Bool.not_eq_false', Int.not_lt, Int.not_le] at hc1
        refine WC.exit ?_
        refine thenQ_e ?_
        refine thenQ_e ?_
        refine blockQ_hit ?_
        refine thenQ_n (hK5 _ _ ?_)
        refine WC.seq (fun K12 hK12 => ?_)
        refine WC.region ?_
        refine WL.op rfl (opW.assignB rfl ?_)
        refine WL.nil ?_
        refine thenQ_n (hK12 _ _ ?_)
        refine WC.ret ?_
        refine bodyQ_ret (.tmpB rfl .nil) ?_
        refine ⟨?_, hS.old⟩
        rw [decide_eq_true (take_all_eq hlen ht (by omega))]
        rfl

theorem sameKeys_ok (w0 : World) (v u : Value) (xs ys : List Key) (hx : SlR w0 v xs) (hy : SlR w0 u ys) : Ret Try.prog 13 #[v, u] w0 (fun r w' => r = .bool (decide (xs = ys)) ∧ Bel w0 w') := by
  refine Ret.enter (args := [v, u]) Try.func13 rfl Try.ntmps13 Try.results13 rfl ?_
  have hS := St.start w0
  refine WC.seq (fun K1 hK1 => ?_)
  refine WC.region ?_
  refine WL.op rfl (opW.assignB rfl ?_)
  refine WL.nil ?_
  refine thenQ_n (hK1 _ _ ?_)
  refine WC.seq (fun K2 hK2 => ?_)
  refine WC.region ?_
  refine WL.op rfl (opW.moveV (v := v) rfl ?_)
  refine WL.op rfl (opW.moveV (v := u) rfl ?_)
  refine WL.op rfl (opW.call (same_k _ _ _ _ _ (hx.bel hS.old) (hy.bel hS.old)) rfl ?_)
  rintro _ w ⟨rfl, hw⟩; replace hS := hS.bel hw
  refine WL.op rfl (opW.assignB rfl ?_)
  refine WL.nil ?_
  refine thenQ_n (hK2 _ _ ?_)
  refine WC.ret ?_
  refine bodyQ_ret (.tmpB rfl .nil) ?_
  exact ⟨rfl, hS.old⟩

@[irreducible] def kK (c : UInt8) : Key := (vz 32).set 0 c
theorem find_none {d : TbD} {k : Key} : d.find k = none ↔ aget k d.kvs = none := by
  unfold TbD.find; cases aget k d.kvs <;> simp
theorem ResIs.ok' {find : Key → Option (List Key)} {ls : List LkM} {e : Int} {a b x y : List Key} (h : ResIs find ls e a b) (hr : resF find ls = .ok x y) : a = x ∧ b = y ∧ e = 0 := by
  rcases h with ⟨h, rfl⟩ | ⟨h, _⟩
  · rw [hr] at h; cases h; exact ⟨rfl, rfl, rfl⟩
  · rw [hr] at h; cases h
theorem ResIs.err' {find : Key → Option (List Key)} {ls : List LkM} {e c : Int} {a b : List Key} (h : ResIs find ls e a b) (hr : resF find ls = .err c) : a = [] ∧ b = [] ∧ e = c := by
  rcases h with ⟨h, rfl⟩ | ⟨h, _, h2, h3⟩
  · rw [hr] at h; cases h
  · rw [hr] at h; cases h; exact ⟨h2, h3, rfl⟩

theorem lives06 (w0 : World) : Ret Try.prog 10 #[] w0 (fun r w' => r = .bool true ∧ Bel w0 w') := by
  refine Ret.enter (args := []) Try.func10 rfl Try.ntmps10 Try.results10 rfl ?_
  have hS := St.start w0
  refine WC.seq (fun K1 hK1 => ?_)
  refine WC.region ?_
  refine WL.op rfl (opW.assignB rfl ?_)
  refine WL.nil ?_
  refine thenQ_n (hK1 _ _ ?_)
  refine WC.seq (fun K2 hK2 => ?_)
  refine WC.region ?_
  refine WL.op rfl (opW.call (new_ok _) rfl ?_)
  rintro _ w ⟨p, d0, rfl, hf0, hn0, hw⟩
  replace hS := hS.newE hw hn0
  refine WL.op rfl (opW.assignV (v := .pointer (some ⟨p, 0, none⟩)) rfl ?_)
  refine WL.nil ?_
  refine thenQ_n (hK2 _ _ ?_)
  refine WC.seq (fun K3 hK3 => ?_)
  refine WC.region ?_
  refine WL.op rfl (opW.buildVec (k := (kK 9)) (by first | rfl | (simp only [kK, enc_vset, enc_vz]; rfl)) (by intro p hp; first | (exfalso; simp at hp; done) | (simp only [List.map_cons, List.map_nil, List.mem_cons, List.not_mem_nil, or_false] at hp; rcases hp with rfl | rfl | rfl | rfl <;> exact ⟨by simp, rfl⟩)) ?_)
  refine WL.op rfl (opW.allocA hS ?_)
  intro b2 w _ hS
  refine WL.op0 (opW.storeE hS rfl rfl (by first | exact .h0 | exact .h1 | exact .h2 | exact .h3 | exact .h4 | exact .h5 | exact .h6 | exact .h7 | exact .h8 | exact .h9 | exact .h10 | exact .h11 | exact .h12 | exact .h13 | exact .h14) (by first | rfl | exact Enc.size_eq _) ?_)
  intro w hS; replace hS := hS _ (by first | exact .h0 | exact .h1 | exact .h2 | exact .h3 | exact .h4 | exact .h5 | exact .h6 | exact .h7 | exact .h8 | exact .h9 | exact .h10 | exact .h11 | exact .h12 | exact .h13 | exact .h14)
  refine WL.nil ?_
  refine thenQ_n (hK3 _ _ ?_)
  refine WC.seq (fun K4 hK4 => ?_)
  refine WC.region ?_
  refine WL.op rfl (opW.buildVec (k := (kK 1)) (by first | rfl | (simp only [kK, enc_vset, enc_vz]; rfl)) (by intro p hp; first | (exfalso; simp at hp; done) | (simp only [List.map_cons, List.map_nil, List.mem_cons, List.not_mem_nil, or_false] at hp; rcases hp with rfl | rfl | rfl | rfl <;> exact ⟨by simp, rfl⟩)) ?_)
  refine WL.op rfl (opW.buildVec (k := (kK 2)) (by first | rfl | (simp only [kK, enc_vset, enc_vz]; rfl)) (by intro p hp; first | (exfalso; simp at hp; done) | (simp only [List.map_cons, List.map_nil, List.mem_cons, List.not_mem_nil, or_false] at hp; rcases hp with rfl | rfl | rfl | rfl <;> exact ⟨by simp, rfl⟩)) ?_)
  refine WL.op rfl (opW.buildVec (k := (kK 3)) (by first | rfl | (simp only [kK, enc_vset, enc_vz]; rfl)) (by intro p hp; first | (exfalso; simp at hp; done) | (simp only [List.map_cons, List.map_nil, List.mem_cons, List.not_mem_nil, or_false] at hp; rcases hp with rfl | rfl | rfl | rfl <;> exact ⟨by simp, rfl⟩)) ?_)
  refine WL.op rfl (opW.buildSl hS (([kK 1, kK 2, kK 3] : List Key)) [.agg (Enc.enc (kK 1)), .agg (Enc.enc (kK 2)), .agg (Enc.enc (kK 3))] rfl rfl rfl rfl (by decide) ?_)
  intro b16 w hw hS
  refine WL.op rfl (opW.assignV (v := (.slice (some ⟨b16, 0, none⟩) 3 3)) rfl ?_)
  refine WL.nil ?_
  refine thenQ_n (hK4 _ _ ?_)
  refine WC.seq (fun K5 hK5 => ?_)
  refine WC.region ?_
  refine WL.op rfl (opW.moveV (v := .pointer (some ⟨p, 0, none⟩)) rfl ?_)
  refine WL.op rfl (opW.loadV rfl (hS.ldA (cs := Enc.enc (kK 9)) (by first | exact .h0 | exact .h1 | exact .h2 | exact .h3 | exact .h4 | exact .h5 | exact .h6 | exact .h7 | exact .h8 | exact .h9 | exact .h10 | exact .h11 | exact .h12 | exact .h13 | exact .h14) (Enc.size_eq _)) ?_)
  refine WL.op rfl (opW.moveV (v := (.slice (some ⟨b16, 0, none⟩) 3 3)) rfl ?_)
  refine WL.op rfl (opW.call (put_ok _ _ [ownE (.slice (some ⟨b16, 0, none⟩) 3 3) 36 ([kK 1, kK 2, kK 3] : List Key), blkE b2 (Enc.enc (kK 9)) 36] p d0 (kK 9) (.slice (some ⟨b16, 0, none⟩) 3 3) ([kK 1, kK 2, kK 3] : List Key) (hS.pick (by first | exact .h0 | exact .h1 | exact .h2 | exact .h3 | exact .h4 | exact .h5 | exact .h6 | exact .h7 | exact .h8 | exact .h9 | exact .h10 | exact .h11 | exact .h12 | exact .h13 | exact .h14)) (fun k l h => by rw [hf0] at h; cases h) (fun w h => h.sl (by first | exact .h0 | exact .h1 | exact .h2 | exact .h3 | exact .h4 | exact .h5 | exact .h6 | exact .h7 | exact .h8 | exact .h9 | exact .h10 | exact .h11 | exact .h12 | exact .h13 | exact .h14))) rfl ?_)
  rintro _ w ⟨d1, rfl, hp1, _, hok1, hS⟩
  have hz : putC d0 (kK 9) ([kK 1, kK 2, kK 3] : List Key) = 0 := by unfold putC; rw [find_none.1 (hf0 _)]; simp
  have hf1 := hp1 hz
  rw [hz]
  refine WL.op rfl (opW.assignI rfl ?_)
  refine WL.nil ?_
  refine thenQ_n (hK5 _ _ ?_)
  refine WC.seq (fun K6 hK6 => ?_)
  refine WC.region ?_
  refine WL.op rfl (opW.moveV (v := .pointer (some ⟨p, 0, none⟩)) rfl ?_)
  refine WL.op rfl (opW.loadV rfl (hS.ldA (cs := Enc.enc (kK 9)) (by first | exact .h0 | exact .h1 | exact .h2 | exact .h3 | exact .h4 | exact .h5 | exact .h6 | exact .h7 | exact .h8 | exact .h9 | exact .h10 | exact .h11 | exact .h12 | exact .h13 | exact .h14) (Enc.size_eq _)) ?_)
  refine WL.op rfl (opW.buildSl hS (([2] : List UInt8)) [.int .u8 2] rfl rfl rfl rfl (by decide) ?_)
  intro b24 w hw hS
  refine WL.op rfl (opW.buildSl hS (([0, 1] : List UInt8)) [.int .u8 0, .int .u8 1] rfl rfl rfl rfl (by decide) ?_)
  intro b25 w hw hS
  refine WL.op rfl (opW.buildE (r := ((⟨kK 9, ⟨some ⟨b24, 0, none⟩, 1, 1⟩, ⟨some ⟨b25, 0, none⟩, 2, 2⟩⟩ : Lookup) : Lookup)) (ps := Lookup.parts ((⟨kK 9, ⟨some ⟨b24, 0, none⟩, 1, 1⟩, ⟨some ⟨b25, 0, none⟩, 2, 2⟩⟩ : Lookup) : Lookup)) (Lookup.enc_eq _) (by first | (simp only [kK, enc_vset, enc_vz, Lookup.enc_eq, Lookup.parts, Act.enc_eq, Act.parts, TbS.enc_eq, TbS.parts]; rfl) | rfl) (by (repeat' (first | exact trivial | refine And.intro ?_ ?_)) <;> first | rfl | exact Enc.size_eq _ | (simp; done)) ?_)
  refine WL.op rfl (opW.buildSl hS (([(⟨kK 9, ⟨some ⟨b24, 0, none⟩, 1, 1⟩, ⟨some ⟨b25, 0, none⟩, 2, 2⟩⟩ : Lookup)] : List Lookup)) [.agg (Enc.enc (⟨kK 9, ⟨some ⟨b24, 0, none⟩, 1, 1⟩, ⟨some ⟨b25, 0, none⟩, 2, 2⟩⟩ : Lookup))] rfl rfl rfl rfl (by decide) ?_)
  intro b27 w hw hS
  refine WL.op rfl (opW.call (resolve_ok _ p d1 _ [(⟨kK 9, ⟨some ⟨b24, 0, none⟩, 1, 1⟩, ⟨some ⟨b25, 0, none⟩, 2, 2⟩⟩ : Lookup)] [⟨kK 9, [2], [0, 1]⟩] (hS.tbAt (by first | exact .h0 | exact .h1 | exact .h2 | exact .h3 | exact .h4 | exact .h5 | exact .h6 | exact .h7 | exact .h8 | exact .h9 | exact .h10 | exact .h11 | exact .h12 | exact .h13 | exact .h14)) (hS.sl (xs := ([(⟨kK 9, ⟨some ⟨b24, 0, none⟩, 1, 1⟩, ⟨some ⟨b25, 0, none⟩, 2, 2⟩⟩ : Lookup)] : List Lookup)) (by first | exact .h0 | exact .h1 | exact .h2 | exact .h3 | exact .h4 | exact .h5 | exact .h6 | exact .h7 | exact .h8 | exact .h9 | exact .h10 | exact .h11 | exact .h12 | exact .h13 | exact .h14)) ⟨⟨rfl, hS.sl (xs := ([2] : List UInt8)) (by first | exact .h0 | exact .h1 | exact .h2 | exact .h3 | exact .h4 | exact .h5 | exact .h6 | exact .h7 | exact .h8 | exact .h9 | exact .h10 | exact .h11 | exact .h12 | exact .h13 | exact .h14), hS.sl (xs := ([0, 1] : List UInt8)) (by first | exact .h0 | exact .h1 | exact .h2 | exact .h3 | exact .h4 | exact .h5 | exact .h6 | exact .h7 | exact .h8 | exact .h9 | exact .h10 | exact .h11 | exact .h12 | exact .h13 | exact .h14)⟩, trivial⟩ (by decide)) rfl ?_)
  rintro _ w ⟨v5, v6, e7, ra, rb, rfl, hN, hr⟩
  obtain ⟨rfl, rfl, rfl⟩ := hr.ok' (show resF d1.find [⟨kK 9, [2], [0, 1]⟩] = .ok [kK 3] [kK 1, kK 2] from by simp [resF, hf1, pick])
  replace hS := hS.merge hN
  simp only [List.cons_append, List.nil_append] at hS
  refine WL.op rfl (opW.moveV (v := .tuple #[v5, v6, .int .i64 0]) rfl ?_)
  refine WL.op rfl (opW.extract rfl rfl ?_)
  refine WL.op rfl (opW.extract rfl rfl ?_)
  refine WL.op rfl (opW.extract rfl rfl ?_)
  refine WL.op rfl (opW.assignV (v := v5) rfl ?_)
  refine WL.op rfl (opW.assignV (v := v6) rfl ?_)
  refine WL.op rfl (opW.assignI rfl ?_)
  refine WL.nil ?_
  refine thenQ_n (hK6 _ _ ?_)
  refine WC.seq (fun K7 hK7 => ?_)
  refine WC.region ?_
  refine WL.op rfl (opW.moveV (v := .pointer (some ⟨p, 0, none⟩)) rfl ?_)
  refine WL.op rfl (opW.loadV rfl (hS.ldA (cs := Enc.enc (kK 9)) (by first | exact .h0 | exact .h1 | exact .h2 | exact .h3 | exact .h4 | exact .h5 | exact .h6 | exact .h7 | exact .h8 | exact .h9 | exact .h10 | exact .h11 | exact .h12 | exact .h13 | exact .h14) (Enc.size_eq _)) ?_)
  refine WL.op rfl (opW.buildSl hS (([3] : List UInt8)) [.int .u8 3] rfl rfl rfl rfl (by decide) ?_)
  intro b35 w hw hS
  refine WL.op rfl (opW.buildE (r := ((⟨kK 9, ⟨none, 0, 0⟩, ⟨some ⟨b35, 0, none⟩, 1, 1⟩⟩ : Lookup) : Lookup)) (ps := Lookup.parts ((⟨kK 9, ⟨none, 0, 0⟩, ⟨some ⟨b35, 0, none⟩, 1, 1⟩⟩ : Lookup) : Lookup)) (Lookup.enc_eq _) (by first | (simp only [kK, enc_vset, enc_vz, Lookup.enc_eq, Lookup.parts, Act.enc_eq, Act.parts, TbS.enc_eq, TbS.parts]; rfl) | rfl) (by (repeat' (first | exact trivial | refine And.intro ?_ ?_)) <;> first | rfl | exact Enc.size_eq _ | (simp; done)) ?_)
  refine WL.op rfl (opW.buildSl hS (([(⟨kK 9, ⟨none, 0, 0⟩, ⟨some ⟨b35, 0, none⟩, 1, 1⟩⟩ : Lookup)] : List Lookup)) [.agg (Enc.enc (⟨kK 9, ⟨none, 0, 0⟩, ⟨some ⟨b35, 0, none⟩, 1, 1⟩⟩ : Lookup))] rfl rfl rfl rfl (by decide) ?_)
  intro b37 w hw hS
  refine WL.op rfl (opW.call (resolve_ok _ p d1 _ [(⟨kK 9, ⟨none, 0, 0⟩, ⟨some ⟨b35, 0, none⟩, 1, 1⟩⟩ : Lookup)] [⟨kK 9, [], [3]⟩] (hS.tbAt (by first | exact .h0 | exact .h1 | exact .h2 | exact .h3 | exact .h4 | exact .h5 | exact .h6 | exact .h7 | exact .h8 | exact .h9 | exact .h10 | exact .h11 | exact .h12 | exact .h13 | exact .h14)) (hS.sl (xs := ([(⟨kK 9, ⟨none, 0, 0⟩, ⟨some ⟨b35, 0, none⟩, 1, 1⟩⟩ : Lookup)] : List Lookup)) (by first | exact .h0 | exact .h1 | exact .h2 | exact .h3 | exact .h4 | exact .h5 | exact .h6 | exact .h7 | exact .h8 | exact .h9 | exact .h10 | exact .h11 | exact .h12 | exact .h13 | exact .h14)) ⟨⟨rfl, SlR.nil _, hS.sl (xs := ([3] : List UInt8)) (by first | exact .h0 | exact .h1 | exact .h2 | exact .h3 | exact .h4 | exact .h5 | exact .h6 | exact .h7 | exact .h8 | exact .h9 | exact .h10 | exact .h11 | exact .h12 | exact .h13 | exact .h14)⟩, trivial⟩ (by decide)) rfl ?_)
  rintro _ w ⟨v8, v9, e10, rc, rd, rfl, hN, hr2⟩
  obtain ⟨rfl, rfl, rfl⟩ := hr2.err' (show resF d1.find [⟨kK 9, [], [3]⟩] = .err 8 from by simp [resF, hf1, pick])
  replace hS := hS.merge hN
  simp only [List.cons_append, List.nil_append] at hS
  refine WL.op rfl (opW.moveV (v := .tuple #[v8, v9, .int .i64 8]) rfl ?_)
  refine WL.op rfl (opW.extract rfl rfl ?_)
  refine WL.op rfl (opW.extract rfl rfl ?_)
  refine WL.op rfl (opW.extract rfl rfl ?_)
  refine WL.op rfl (opW.assignV (v := v8) rfl ?_)
  refine WL.op rfl (opW.assignV (v := v9) rfl ?_)
  refine WL.op rfl (opW.assignI rfl ?_)
  refine WL.nil ?_
  refine thenQ_n (hK7 _ _ ?_)
  refine WC.seq (fun K8 hK8 => ?_)
  refine WC.region ?_
  refine WL.op rfl (opW.moveI rfl ?_)
  refine WL.op rfl (opW.boolT (by decide) (opW.eql rfl rfl ⟨rfl, rfl⟩) ?_)
  refine WL.op rfl (opW.moveB rfl ?_)
  refine WL.gT 44 rfl rfl rfl (WL.op rfl (opW.moveV (v := v5) rfl ?_))
  refine WL.gT 44 rfl rfl rfl (WL.op rfl (opW.moveV (v := (.slice (some ⟨b16, 0, none⟩) 3 3)) rfl ?_))
  refine WL.gT 44 rfl rfl rfl (WL.op rfl (opW.cutS (l := 2) (h' := 3) (m := 3) (hS.sl (v := (.slice (some ⟨b16, 0, none⟩) 3 3)) (xs := ([kK 1, kK 2, kK 3] : List Key)) (by first | exact .h0 | exact .h1 | exact .h2 | exact .h3 | exact .h4 | exact .h5 | exact .h6 | exact .h7 | exact .h8 | exact .h9 | exact .h10 | exact .h11 | exact .h12 | exact .h13 | exact .h14)) ⟨rfl, Nat.le_refl _⟩ ⟨⟨rfl, rfl⟩, by decide⟩ ⟨⟨_, rfl⟩, by decide⟩ ?_))
  refine WL.gT 44 rfl rfl rfl (WL.op rfl (opW.call (sameKeys_ok _ v5 _ [kK 3] [kK 3] (hS.sl (v := v5) (by first | exact .h0 | exact .h1 | exact .h2 | exact .h3 | exact .h4 | exact .h5 | exact .h6 | exact .h7 | exact .h8 | exact .h9 | exact .h10 | exact .h11 | exact .h12 | exact .h13 | exact .h14)) ((hS.sl (v := (.slice (some ⟨b16, 0, none⟩) 3 3)) (xs := ([kK 1, kK 2, kK 3] : List Key)) (by first | exact .h0 | exact .h1 | exact .h2 | exact .h3 | exact .h4 | exact .h5 | exact .h6 | exact .h7 | exact .h8 | exact .h9 | exact .h10 | exact .h11 | exact .h12 | exact .h13 | exact .h14)).cut (l := 2) (h := 3) (m := 3) (by decide) (by decide) (by decide) (Nat.le_refl 3))) rfl ?_))
  rintro _ w ⟨rfl, hw⟩; replace hS := hS.bel hw
  rw [show decide ([kK 3] = [kK 3]) = true from by simp]
  refine WL.op rfl (opW.pickT rfl rfl ?_)
  refine WL.op rfl (opW.moveB rfl ?_)
  refine WL.gT 50 rfl rfl rfl (WL.op rfl (opW.moveV (v := v6) rfl ?_))
  refine WL.gT 50 rfl rfl rfl (WL.op rfl (opW.moveV (v := (.slice (some ⟨b16, 0, none⟩) 3 3)) rfl ?_))
  refine WL.gT 50 rfl rfl rfl (WL.op rfl (opW.cutS (l := 0) (h' := 2) (m := 3) (hS.sl (v := (.slice (some ⟨b16, 0, none⟩) 3 3)) (xs := ([kK 1, kK 2, kK 3] : List Key)) (by first | exact .h0 | exact .h1 | exact .h2 | exact .h3 | exact .h4 | exact .h5 | exact .h6 | exact .h7 | exact .h8 | exact .h9 | exact .h10 | exact .h11 | exact .h12 | exact .h13 | exact .h14)) ⟨rfl, Nat.le_refl _⟩ ⟨⟨_, rfl⟩, by decide⟩ ⟨rfl, by decide⟩ ?_))
  refine WL.gT 50 rfl rfl rfl (WL.op rfl (opW.call (sameKeys_ok _ v6 _ [kK 1, kK 2] [kK 1, kK 2] (hS.sl (v := v6) (by first | exact .h0 | exact .h1 | exact .h2 | exact .h3 | exact .h4 | exact .h5 | exact .h6 | exact .h7 | exact .h8 | exact .h9 | exact .h10 | exact .h11 | exact .h12 | exact .h13 | exact .h14)) ((hS.sl (v := (.slice (some ⟨b16, 0, none⟩) 3 3)) (xs := ([kK 1, kK 2, kK 3] : List Key)) (by first | exact .h0 | exact .h1 | exact .h2 | exact .h3 | exact .h4 | exact .h5 | exact .h6 | exact .h7 | exact .h8 | exact .h9 | exact .h10 | exact .h11 | exact .h12 | exact .h13 | exact .h14)).cut (l := 0) (h := 2) (m := 3) (by decide) (by decide) (by decide) (Nat.le_refl 3))) rfl ?_))
  rintro _ w ⟨rfl, hw⟩; replace hS := hS.bel hw
  rw [show decide ([kK 1, kK 2] = [kK 1, kK 2]) = true from by simp]
  refine WL.op rfl (opW.pickT rfl rfl ?_)
  refine WL.op rfl (opW.moveB rfl ?_)
  refine WL.gT 56 rfl rfl rfl (WL.op rfl (opW.moveI rfl ?_))
  refine WL.gT 56 rfl rfl rfl (WL.op rfl (opW.boolT (by decide) (opW.eql rfl rfl ⟨rfl, rfl⟩) ?_))
  refine WL.op rfl (opW.pickT rfl rfl ?_)
  refine WL.op rfl (opW.moveB rfl ?_)
  refine WL.gT 60 rfl rfl rfl (WL.op rfl (opW.moveI rfl ?_))
  refine WL.gT 60 rfl rfl rfl (WL.op rfl (opW.boolT (by decide) (opW.eql rfl rfl ⟨rfl, rfl⟩) ?_))
  refine WL.op rfl (opW.pickT rfl rfl ?_)
  refine WL.op rfl (opW.assignB rfl ?_)
  refine WL.nil ?_
  refine thenQ_n (hK8 _ _ ?_)
  refine WC.ret ?_
  refine bodyQ_ret (.tmpB rfl .nil) ?_
  exact ⟨rfl, hS.old⟩

end Go.Fer
