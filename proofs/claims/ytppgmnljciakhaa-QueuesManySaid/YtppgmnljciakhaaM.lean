/- QueuesMany -/
import Derived.Test.YtppgmnljciakhaaG
set_option linter.all false
namespace Go.Fer
open Go Go.Proofs Go.RowKit

def manyC (n : Nat) (id : Int) (i : Nat) : Cn := if 1 ≤ n ∧ n ≤ 64 then [List.replicate i (List.replicate n (⟨id⟩ : I64))] else [[]]
theorem many_ok (n : Nat) (id : Int) (i : Nat) : okB (manyC n id i) 0 (List.replicate n (⟨id⟩ : I64)) = (decide (1 ≤ n) && decide (n ≤ 64)) := by
  have h : (manyC n id i).length = 1 := by unfold manyC; split <;> rfl
  simp [okB, h, inR]
theorem many_push (n : Nat) (id : Int) (i : Nat) : pushR (manyC n id i) 0 (List.replicate n (⟨id⟩ : I64)) = manyC n id (i + 1) := by
  unfold pushR
  rw [many_ok]
  by_cases h : 1 ≤ n ∧ n ≤ 64
  · simp [h, manyC, laneC, inR, List.replicate_succ']
  · simp only [← Bool.decide_and]
    rw [decide_eq_false h]
    simp [manyC, h]
theorem many_cnt (n : Nat) (id : Int) (i : Nat) : cntC (manyC n id i) 0 = if 1 ≤ n ∧ n ≤ 64 then n * i else 0 := by
  by_cases h : 1 ≤ n ∧ n ≤ 64
  · simp [h, manyC, cntC, laneC, inR, Nat.mul_comm]
  · simp [h, manyC, cntC, laneC, inR]

set_option maxRecDepth 20000 in
set_option maxHeartbeats 4000000 in
theorem many_law (w0 : World) (id : Int) (a b : Nat) (ha : a < 256) (hb : b < 256) : Ret Try.prog 6 #[.int .i64 id, .int .u8 (a : Int), .int .u8 (b : Int)] w0 (fun r w' => r = .bool true ∧ Bel w0 w') := by
  refine Ret.enter (args := [.int .i64 id, .int .u8 (a : Int), .int .u8 (b : Int)]) Try.func6 rfl Try.ntmps6 Try.results6 rfl ?_
  have hS := St.start w0
  refine WC.seq (fun K1 hK1 => ?_)
  refine WC.region ?_
  refine WL.op rfl (opW.assignB rfl ?_)
  refine WL.nil ?_
  refine thenQ_n (hK1 _ _ ?_)
  refine WC.seq (fun K2 hK2 => ?_)
  refine WC.region ?_
  refine WL.op rfl (opW.call (new_ok _ 1) rfl ?_)
  rintro v w (⟨h, _⟩ | ⟨_, p, d0, rfl, hok0, hC0, hne0, hn, hw⟩)
  · exact absurd h (by decide)
  replace hS := hS.newE hw hn
  replace hC0 : d0.C = [[]] := hC0
  refine WL.op rfl (opW.moveV (v := .tuple #[.pointer (some ⟨p, 0, none⟩), .int .i64 0]) rfl ?_)
  refine WL.op rfl (opW.extract rfl rfl ?_)
  refine WL.op rfl (opW.extract rfl rfl ?_)
  refine WL.op rfl (opW.assignV (v := .pointer (some ⟨p, 0, none⟩)) rfl ?_)
  refine WL.op rfl (opW.assignI rfl ?_)
  refine WL.nil ?_
  refine thenQ_n (hK2 _ _ ?_)
  refine WC.seq (fun K3 hK3 => ?_)
  refine WC.seq (fun K4 hK4 => ?_)
  refine WC.region ?_
  refine WL.op rfl (opW.moveI rfl ?_)
  refine WL.op rfl (opW.neq rfl rfl ?_)
  refine WL.nil ?_
  refine thenQ_n (hK4 _ _ ?_)
  refine WC.cond _ rfl (fun hc0 => ?_) (fun hc0 => ?_)
  ·
    have hr0 := hc0
    try simp only [decide_eq_true_eq, decide_eq_false_iff_not, Bool.and_eq_true, Bool.or_eq_true, Bool.and_eq_false_iff, Bool.or_eq_false_iff, Bool.not_eq_true', Bool.not_eq_false', Int.not_lt, Int.not_le] at hc0
    exact absurd hr0 (by decide)
  ·
    have hr0 := hc0
    try simp only [decide_eq_true_eq, decide_eq_false_iff_not, Bool.and_eq_true, Bool.or_eq_true, Bool.and_eq_false_iff, Bool.or_eq_false_iff, Bool.not_eq_true', Bool.not_eq_false', Int.not_lt, Int.not_le] at hc0
    refine WC.skip ?_
    refine thenQ_n (hK3 _ _ ?_)
    refine WC.seq (fun K5 hK5 => ?_)
    refine WC.region ?_
    refine WL.op rfl (opW.moveI rfl ?_)
    refine WL.op rfl (opW.conv rfl (wrap_i64 (by omega)) ?_)
    refine WL.op rfl (opW.rem rfl rfl (by omega) (tmod_nat a 70) ?_)
    refine WL.op rfl (opW.assignI rfl ?_)
    have hn70 : a % 70 < 70 := Nat.mod_lt _ (by omega)
    generalize a % 70 = n at hn70 ⊢
    refine WL.nil ?_
    refine thenQ_n (hK5 _ _ ?_)
    refine WC.seq (fun K6 hK6 => ?_)
    refine WC.region ?_
    refine WL.op rfl (opW.assignV (v := .slice none 0 0) rfl ?_)
    refine WL.nil ?_
    refine thenQ_n (hK6 _ _ ?_)
    refine WC.seq (fun K7 hK7 => ?_)
    refine WC.seq (fun K8 hK8 => ?_)
    refine WC.region ?_
    refine WL.op rfl (opW.assignI rfl ?_)
    refine WL.nil ?_
    refine thenQ_n (hK8 _ _ ?_)
    refine WC.block ?_
    refine WC.loop (fun q f w => ∃ (k : Nat) (s : SlV), Fits [(0, .int .i64 id), (2, .int .u8 (b : Int)), (7, .pointer (some ⟨p, 0, none⟩)), (9, .int .i64 (n : Int)), (10, s.v), (11, .int .i64 (k : Int))] f ∧ St w0 [ownE s.v 3 (List.replicate k (⟨id⟩ : I64)), laE p d0] w ∧ k ≤ n ∧ q = n - k) (n) ?_ ?_
    ·
      exact ⟨0, ⟨none, 0, 0⟩, ⟨rfl, rfl, rfl, rfl, rfl, rfl, trivial⟩, hS.nilOwn 3, Nat.zero_le _, rfl⟩
    ·
      rintro q f w ⟨k, s, hfit, hS, hk0, hm⟩
      refine WC.fits _ hfit (fun g => ?_)
      clear hfit
      refine WC.seq (fun K9 hK9 => ?_)
      refine WC.seq (fun K10 hK10 => ?_)
      refine WC.region ?_
      refine WL.op rfl (opW.moveI rfl ?_)
      refine WL.op rfl (opW.moveI rfl ?_)
      refine WL.op rfl (opW.lss rfl rfl ?_)
      refine WL.nil ?_
      refine thenQ_n (hK10 _ _ ?_)
      refine WC.cond _ rfl (fun hc1 => ?_) (fun hc1 => ?_)
      ·
        have hr1 := hc1
        try simp only [decide_eq_true_eq, decide_eq_false_iff_not, Bool.and_eq_true, Bool.or_eq_true, Bool.and_eq_false_iff, Bool.or_eq_false_iff, Bool.not_eq_true', Bool.not_eq_false', Int.not_lt, Int.not_le] at hc1
        refine WC.skip ?_
        refine thenQ_n (hK9 _ _ ?_)
        refine WC.seq (fun K11 hK11 => ?_)
        refine WC.block ?_
        refine WC.region ?_
        refine WL.op rfl (opW.moveV (v := s.v) rfl ?_)
        refine WL.op rfl (opW.moveI rfl ?_)
        refine WL.op rfl (opW.buildSl hS (([⟨id⟩] : List I64)) [.int .i64 id] rfl rfl rfl rfl (by decide) ?_)
        intro b29 w hw hS
        refine WL.op rfl (opW.appendOwn (α := I64) (v := s.v) (xs := (List.replicate k (⟨id⟩ : I64))) rfl hS rfl (by first | exact .h0 | exact .h1 | exact .h2 | exact .h3 | exact .h4 | exact .h5 | exact .h6 | exact .h7 | exact .h8 | exact .h9 | exact .h10 | exact .h11 | exact .h12 | exact .h13 | exact .h14) (hS.sl (xs := ([⟨id⟩] : List I64)) (by first | exact .h0 | exact .h1 | exact .h2 | exact .h3 | exact .h4 | exact .h5 | exact .h6 | exact .h7 | exact .h8 | exact .h9 | exact .h10 | exact .h11 | exact .h12 | exact .h13 | exact .h14)) (by rw [List.length_replicate]; simp only [List.length_cons, List.length_nil]; omega) (by rw [List.length_replicate]; simp only [maxLen, List.length_cons, List.length_nil]; omega) ?_)
        intro v30 w hS; replace hS := hS _ (by first | exact .h0 | exact .h1 | exact .h2 | exact .h3 | exact .h4 | exact .h5 | exact .h6 | exact .h7 | exact .h8 | exact .h9 | exact .h10 | exact .h11 | exact .h12 | exact .h13 | exact .h14)
        obtain ⟨s30, rfl⟩ := (hS.sl (v := v30) (xs := (List.replicate k (⟨id⟩ : I64)) ++ [⟨id⟩]) (by first | exact .h0 | exact .h1 | exact .h2 | exact .h3 | exact .h4 | exact .h5 | exact .h6 | exact .h7 | exact .h8 | exact .h9 | exact .h10 | exact .h11 | exact .h12 | exact .h13 | exact .h14)).asV
        refine WL.op rfl (opW.assignV (v := s30.v) rfl ?_)
        refine WL.nil ?_
        refine blockQ_n ?_
        refine thenQ_n (hK11 _ _ ?_)
        refine WC.region ?_
        refine WL.op rfl (opW.moveI rfl ?_)
        refine WL.op rfl (opW.add rfl rfl (wrap_i64 (by omega)) ?_)
        refine WL.op rfl (opW.assignI rfl ?_)
        refine WL.nil ?_
        refine thenQ_n ?_
        exact ⟨n - (k + 1), by omega, k + 1, s30, ⟨rfl, rfl, rfl, rfl, rfl, congrArg (Value.int .i64) (by omega), trivial⟩, (by rw [List.replicate_succ']; exact hS.sub (by repeat (first | with_reducible exact List.nil_sublist _ | with_reducible exact List.Sublist.refl _ | with_reducible refine List.Sublist.cons₂ _ ?_ | with_reducible refine List.Sublist.cons _ ?_))), by omega, rfl⟩
      ·
        have hr1 := hc1
        try simp only [decide_eq_true_eq, decide_eq_false_iff_not, Bool.and_eq_true, Bool.or_eq_true, Bool.and_eq_false_iff, Bool.or_eq_false_iff, Bool.not_eq_true', Bool.not_eq_false', Int.not_lt, Int.not_le] at hc1
        obtain rfl : k = n := by omega
        replace hS := hS.swap
        refine WC.exit ?_
        refine thenQ_e ?_
        refine thenQ_e ?_
        refine blockQ_hit ?_
        refine thenQ_n (hK7 _ _ ?_)
        refine WC.seq (fun K12 hK12 => ?_)
        refine WC.seq (fun K13 hK13 => ?_)
        refine WC.region ?_
        refine WL.op rfl (opW.assignI rfl ?_)
        refine WL.nil ?_
        refine thenQ_n (hK13 _ _ ?_)
        refine WC.block ?_
        refine WC.loop (fun q2 f w => ∃ (i : Nat) (d : LaD), Fits [(2, .int .u8 (b : Int)), (7, .pointer (some ⟨p, 0, none⟩)), (9, .int .i64 (k : Int)), (10, s.v), (12, .int .i64 (i : Int))] f ∧ St w0 [laE p d, ownE s.v 3 (List.replicate k (⟨id⟩ : I64))] w ∧ d.C = manyC k id i ∧ LaOk i d ∧ d.lv.a.isNone = false ∧ i ≤ b % 40 ∧ q2 = b % 40 - i) (b % 40) ?_ ?_
        ·
          exact ⟨0, d0, ⟨rfl, rfl, rfl, rfl, rfl, trivial⟩, hS, by rw [hC0]; unfold manyC; split <;> rfl, hok0, hne0, Nat.zero_le _, rfl⟩
        ·
          rintro q2 f w ⟨i, d, hfit, hS, hC, hok, hne, hi0, hm2⟩
          refine WC.fits _ hfit (fun g => ?_)
          clear hfit
          refine WC.seq (fun K14 hK14 => ?_)
          refine WC.seq (fun K15 hK15 => ?_)
          refine WC.region ?_
          have hb40 : b % 40 < 40 := Nat.mod_lt _ (by omega)
          refine WL.op rfl (opW.moveI rfl ?_)
          refine WL.op rfl (opW.moveI rfl ?_)
          refine WL.op rfl (opW.conv rfl (wrap_i64 (by omega)) ?_)
          refine WL.op rfl (opW.rem rfl rfl (by omega) (tmod_nat b 40) ?_)
          refine WL.op rfl (opW.lss rfl rfl ?_)
          refine WL.nil ?_
          refine thenQ_n (hK15 _ _ ?_)
          refine WC.cond _ rfl (fun hc2 => ?_) (fun hc2 => ?_)
          ·
            have hr2 := hc2
            try simp only [decide_eq_true_eq, decide_eq_false_iff_not, Bool.and_eq_true, Bool.or_eq_true, Bool.and_eq_false_iff, Bool.or_eq_false_iff, Bool.not_eq_true', Bool.not_eq_false', Int.not_lt, Int.not_le] at hc2
            have hib : i < b % 40 := by omega
            have hmul : k * (i + 1) ≤ 70 * 40 := Nat.mul_le_mul (by omega) (by omega)
            obtain ⟨M, hM⟩ : ∃ M, k * (i + 1) = M := ⟨_, rfl⟩
            rw [hM] at hmul
            refine WC.skip ?_
            refine thenQ_n (hK14 _ _ ?_)
            refine WC.seq (fun K16 hK16 => ?_)
            refine WC.block ?_
            refine WC.seq (fun K17 hK17 => ?_)
            refine WC.seq (fun K18 hK18 => ?_)
            refine WC.region ?_
            refine WL.op rfl (opW.moveV (v := .pointer (some ⟨p, 0, none⟩)) rfl ?_)
            refine WL.op rfl (opW.moveV (v := s.v) rfl ?_)
            refine WL.op rfl (opW.call (pushL_ok _ _ _ p d i 0 _ (List.replicate k (⟨id⟩ : I64)) hS hok (by omega) hne (fun w h => h.sl (v := s.v) (xs := (List.replicate k (⟨id⟩ : I64))) (by first | exact .h0 | exact .h1 | exact .h2 | exact .h3 | exact .h4 | exact .h5 | exact .h6 | exact .h7 | exact .h8 | exact .h9 | exact .h10 | exact .h11 | exact .h12 | exact .h13 | exact .h14))) rfl ?_)
            rintro v w ⟨d', hv, hC', hl', hok', hS⟩
            rw [hC, many_ok] at hv
            rw [hC, many_push] at hC'
            subst hv
            refine WL.op rfl (opW.eql rfl rfl ?_)
            refine WL.op rfl (opW.moveI rfl ?_)
            refine WL.op rfl (opW.geq rfl rfl ?_)
            refine WL.op rfl (opW.moveB rfl ?_)
            refine WL.gd _ 44 _ rfl rfl rfl rfl (fun hg45 => opW.moveI rfl ⟨rfl, Bel.refl _⟩) (fun w hw => ?_)
            replace hS := hS.bel hw
            refine WL.gd _ 44 _ rfl rfl rfl rfl (fun hg46 => opW.leq (by first | exact gv_of rfl hg46 | rfl) rfl ⟨rfl, Bel.refl _⟩) (fun w hw => ?_)
            replace hS := hS.bel hw
            refine WL.op rfl (opW.pickAnd rfl (by first | rfl) rfl ?_)
            refine WL.op rfl (opW.neqB rfl rfl ?_)
            refine WL.nil ?_
            refine thenQ_n (hK18 _ _ ?_)
            refine WC.cond _ rfl (fun hc3 => ?_) (fun hc3 => ?_)
            ·
              have hr3 := hc3
              try simp only [decide_eq_true_eq, decide_eq_false_iff_not, Bool.and_eq_true, Bool.or_eq_true, Bool.and_eq_false_iff, Bool.or_eq_false_iff, Bool.not_eq_true', Bool.not_eq_false', Int.not_lt, Int.not_le] at hc3
              by_cases h1 : 1 ≤ k <;> by_cases h2 : k ≤ 64 <;> simp [h1, h2] at hr3 <;> omega
            ·
              have hr3 := hc3
              try simp only [decide_eq_true_eq, decide_eq_false_iff_not, Bool.and_eq_true, Bool.or_eq_true, Bool.and_eq_false_iff, Bool.or_eq_false_iff, Bool.not_eq_true', Bool.not_eq_false', Int.not_lt, Int.not_le] at hc3
              refine WC.skip ?_
              refine thenQ_n (hK17 _ _ ?_)
              refine WC.seq (fun K19 hK19 => ?_)
              refine WC.region ?_
              refine WL.op rfl (opW.moveI rfl ?_)
              refine WL.op rfl (opW.geq rfl rfl ?_)
              refine WL.op rfl (opW.moveB rfl ?_)
              refine WL.gd _ 51 _ rfl rfl rfl rfl (fun hg52 => opW.moveI rfl ⟨rfl, Bel.refl _⟩) (fun w hw => ?_)
              replace hS := hS.bel hw
              refine WL.gd _ 51 _ rfl rfl rfl rfl (fun hg53 => opW.leq (by first | exact gv_of rfl hg53 | rfl) rfl ⟨rfl, Bel.refl _⟩) (fun w hw => ?_)
              replace hS := hS.bel hw
              refine WL.op rfl (opW.pickAnd rfl (by first | rfl) rfl ?_)
              refine WL.op rfl (opW.moveB rfl ?_)
              refine WL.gd _ 55 _ rfl rfl rfl rfl (fun hg56 => opW.moveV (v := .pointer (some ⟨p, 0, none⟩)) rfl ⟨rfl, Bel.refl _⟩) (fun w hw => ?_)
              replace hS := hS.bel hw
              refine WL.gd _ 55 (.int .i64 (cntC d'.C 0 : Nat)) rfl rfl rfl rfl (fun hg57 => ?_) (fun w hw => ?_)
              · refine opW.call (count_ok _ p d' 0 (hS.laAt (by first | exact .h0 | exact .h1 | exact .h2 | exact .h3 | exact .h4 | exact .h5 | exact .h6 | exact .h7 | exact .h8 | exact .h9 | exact .h10 | exact .h11 | exact .h12 | exact .h13 | exact .h14))) (args2 (by first | exact gv_of rfl hg57 | rfl) rfl) ?_
                rintro _ w ⟨rfl, hw⟩; replace hS := hS.bel hw
                exact ⟨rfl, ‹_›⟩
              replace hS := hS.bel hw
              refine WL.gd _ 55 _ rfl rfl rfl rfl (fun hg58 => opW.moveI rfl ⟨rfl, Bel.refl _⟩) (fun w hw => ?_)
              replace hS := hS.bel hw
              refine WL.gd _ 55 _ rfl rfl rfl rfl (fun hg59 => opW.moveI rfl ⟨rfl, Bel.refl _⟩) (fun w hw => ?_)
              replace hS := hS.bel hw
              refine WL.gd _ 55 _ rfl rfl rfl rfl (fun hg60 => opW.add (by first | exact gv_of rfl hg60 | rfl) rfl ((wrap_i64 (by omega)).trans (by omega : _ = ((i + 1 : Nat) : Int))) ⟨rfl, Bel.refl _⟩) (fun w hw => ?_)
              replace hS := hS.bel hw
              refine WL.gd _ 55 _ rfl rfl rfl rfl (fun hg61 => opW.mul (by first | exact gv_of rfl hg61 | rfl) (by first | exact gv_of rfl hg61 | rfl) ((wrap_i64 (by rw [← Int.natCast_mul, hM]; omega)).trans (by rw [← Int.natCast_mul, hM] : _ = (M : Int))) ⟨rfl, Bel.refl _⟩) (fun w hw => ?_)
              replace hS := hS.bel hw
              refine WL.gd _ 55 _ rfl rfl rfl rfl (fun hg62 => opW.neq (by first | exact gv_of rfl hg62 | rfl) (by first | exact gv_of rfl hg62 | rfl) ⟨rfl, Bel.refl _⟩) (fun w hw => ?_)
              replace hS := hS.bel hw
              refine WL.op rfl (opW.pickAnd rfl (by first | rfl) rfl ?_)
              refine WL.op rfl (opW.moveB rfl ?_)
              refine WL.gd _ 64 _ rfl rfl rfl rfl (fun hg65 => opW.moveI rfl ⟨rfl, Bel.refl _⟩) (fun w hw => ?_)
              replace hS := hS.bel hw
              refine WL.gd _ 64 _ rfl rfl rfl rfl (fun hg66 => opW.lss (by first | exact gv_of rfl hg66 | rfl) rfl ⟨rfl, Bel.refl _⟩) (fun w hw => ?_)
              replace hS := hS.bel hw
              refine WL.gd _ 64 _ rfl rfl rfl rfl (fun hg67 => opW.moveB (by first | exact gv_of rfl hg67 | rfl) ⟨rfl, Bel.refl _⟩) (fun w hw => ?_)
              replace hS := hS.bel hw
              refine WL.gd2 _ _ 67 _ rfl rfl rfl rfl (fun hg68 => opW.moveI rfl ⟨rfl, Bel.refl _⟩) (fun w hw => ?_)
              replace hS := hS.bel hw
              refine WL.gd2 _ _ 67 _ rfl rfl rfl rfl (fun hg69 => opW.gtr (by first | exact gv_of rfl hg69 | rfl) rfl ⟨rfl, Bel.refl _⟩) (fun w hw => ?_)
              replace hS := hS.bel hw
              refine WL.gd _ 64 _ rfl rfl rfl rfl (fun hg70 => opW.pickOr (by first | exact gv_of rfl hg70 | rfl) rfl (by first | exact gv_and rfl hg70 | rfl) ⟨rfl, Bel.refl _⟩) (fun w hw => ?_)
              replace hS := hS.bel hw
              refine WL.gd _ 64 _ rfl rfl rfl rfl (fun hg71 => opW.moveB (by first | exact gv_of rfl hg71 | rfl) ⟨rfl, Bel.refl _⟩) (fun w hw => ?_)
              replace hS := hS.bel hw
              refine WL.gd2 _ _ 71 _ rfl rfl rfl rfl (fun hg72 => opW.moveV (v := .pointer (some ⟨p, 0, none⟩)) rfl ⟨rfl, Bel.refl _⟩) (fun w hw => ?_)
              replace hS := hS.bel hw
              refine WL.gd2 _ _ 71 (.int .i64 (cntC d'.C 0 : Nat)) rfl rfl rfl rfl (fun hg73 => ?_) (fun w hw => ?_)
              · refine opW.call (count_ok _ p d' 0 (hS.laAt (by first | exact .h0 | exact .h1 | exact .h2 | exact .h3 | exact .h4 | exact .h5 | exact .h6 | exact .h7 | exact .h8 | exact .h9 | exact .h10 | exact .h11 | exact .h12 | exact .h13 | exact .h14))) (args2 (by first | exact gv_of rfl hg73 | rfl) rfl) ?_
                rintro _ w ⟨rfl, hw⟩; replace hS := hS.bel hw
                exact ⟨rfl, ‹_›⟩
              replace hS := hS.bel hw
              refine WL.gd2 _ _ 71 _ rfl rfl rfl rfl (fun hg74 => opW.neq (by first | exact gv_of rfl hg74 | rfl) rfl ⟨rfl, Bel.refl _⟩) (fun w hw => ?_)
              replace hS := hS.bel hw
              refine WL.gd _ 64 _ rfl rfl rfl rfl (fun hg75 => opW.pickAnd (by first | exact gv_of rfl hg75 | rfl) (by first | exact gv_and rfl hg75 | rfl) rfl ⟨rfl, Bel.refl _⟩) (fun w hw => ?_)
              replace hS := hS.bel hw
              refine WL.op rfl (opW.pickOr rfl rfl (by first | rfl) ?_)
              refine WL.nil ?_
              refine thenQ_n (hK19 _ _ ?_)
              refine WC.cond _ rfl (fun hc4 => ?_) (fun hc4 => ?_)
              ·
                have hr4 := hc4
                try simp only [decide_eq_true_eq, decide_eq_false_iff_not, Bool.and_eq_true, Bool.or_eq_true, Bool.and_eq_false_iff, Bool.or_eq_false_iff, Bool.not_eq_true', Bool.not_eq_false', Int.not_lt, Int.not_le] at hc4
                rw [hC', many_cnt, hM] at hr4
                by_cases h1 : 1 ≤ k <;> by_cases h2 : k ≤ 64 <;> simp [h1, h2] at hr4 <;> omega
              ·
                have hr4 := hc4
                try simp only [decide_eq_true_eq, decide_eq_false_iff_not, Bool.and_eq_true, Bool.or_eq_true, Bool.and_eq_false_iff, Bool.or_eq_false_iff, Bool.not_eq_true', Bool.not_eq_false', Int.not_lt, Int.not_le] at hc4
                refine WC.skip ?_
                refine blockQ_n ?_
                refine thenQ_n (hK16 _ _ ?_)
                refine WC.region ?_
                refine WL.op rfl (opW.moveI rfl ?_)
                refine WL.op rfl (opW.add rfl rfl (wrap_i64 (by omega)) ?_)
                refine WL.op rfl (opW.assignI rfl ?_)
                refine WL.nil ?_
                refine thenQ_n ?_
                exact ⟨b % 40 - (i + 1), by omega, i + 1, d', ⟨rfl, rfl, rfl, rfl, congrArg (Value.int .i64) (by omega), trivial⟩, hS, hC', hok', (by rw [hl']; exact hne), by omega, rfl⟩
          ·
            have hr2 := hc2
            try simp only [decide_eq_true_eq, decide_eq_false_iff_not, Bool.and_eq_true, Bool.or_eq_true, Bool.and_eq_false_iff, Bool.or_eq_false_iff, Bool.not_eq_true', Bool.not_eq_false', Int.not_lt, Int.not_le] at hc2
            refine WC.exit ?_
            refine thenQ_e ?_
            refine thenQ_e ?_
            refine blockQ_hit ?_
            refine thenQ_n (hK12 _ _ ?_)
            refine WC.seq (fun K20 hK20 => ?_)
            refine WC.region ?_
            refine WL.op rfl (opW.call (lives_ok _) rfl ?_)
            rintro _ w ⟨rfl, hw⟩; replace hS := hS.bel hw
            refine WL.op rfl (opW.assignB rfl ?_)
            refine WL.nil ?_
            refine thenQ_n (hK20 _ _ ?_)
            refine WC.ret ?_
            refine bodyQ_ret (.tmpB rfl .nil) ?_
            exact ⟨rfl, hS.old⟩

end Go.Fer
