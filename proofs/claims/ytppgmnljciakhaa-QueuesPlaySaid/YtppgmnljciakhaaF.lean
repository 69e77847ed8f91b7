/- same, alike, spoil, great -/
import Derived.Test.YtppgmnljciakhaaE
set_option linter.all false
namespace Go.Fer
open Go Go.Proofs Go.RowKit

def sumL (ac : Nat → List I64) : Nat → Nat
  | 0 => 0
  | k + 1 => sumL ac k + (ac k).length
theorem sumL_mono (ac : Nat → List I64) {k n : Nat} (h : k ≤ n) : sumL ac k ≤ sumL ac n := by
  induction n with
  | zero => obtain rfl : k = 0 := by omega
            exact Nat.le_refl _
  | succ n ih =>
    by_cases hk : k = n + 1
    · subst hk; exact Nat.le_refl _
    · have := ih (by omega); show _ ≤ sumL ac n + (ac n).length; omega

theorem same_ok (w0 : World) (v1 v2 : Value) (x y : List I64) (hx : SlR w0 v1 x) (hy : SlR w0 v2 y) : Ret Try.prog 13 #[v1, v2] w0 (fun u w' => u = .bool (decide (x = y)) ∧ Bel w0 w') := by
  refine Ret.enter (args := [v1, v2]) Try.func13 rfl Try.ntmps13 Try.results13 rfl ?_
  have hS := St.start w0
  have hxl := hx.le
  simp only [maxLen] at hxl
  refine WC.seq (fun K1 hK1 => ?_)
  refine WC.region ?_
  refine WL.op rfl (opW.assignB rfl ?_)
  refine WL.nil ?_
  refine thenQ_n (hK1 _ _ ?_)
  refine WC.seq (fun K2 hK2 => ?_)
  refine WC.seq (fun K3 hK3 => ?_)
  refine WC.region ?_
  refine WL.op rfl (opW.assignI rfl ?_)
  refine WL.nil ?_
  refine thenQ_n (hK3 _ _ ?_)
  refine WC.block ?_
  refine WC.loop (fun q f w => ∃ k : Nat, Fits [(0, v1), (1, v2), (5, .int .i64 (k : Int))] f ∧ St w0 [] w ∧ x.take k = y.take k ∧ k ≤ x.length ∧ q = x.length - k) (x.length) ?_ ?_
  ·
    exact ⟨0, ⟨rfl, rfl, rfl, trivial⟩, hS, rfl, Nat.zero_le _, rfl⟩
  ·
    rintro q f w ⟨k, hfit, hS, ht, hk0, hm⟩
    refine WC.fits _ hfit (fun g => ?_)
    clear hfit
    refine WC.seq (fun K4 hK4 => ?_)
    refine WC.seq (fun K5 hK5 => ?_)
    refine WC.region ?_
    refine WL.op rfl (opW.moveI rfl ?_)
    refine WL.op rfl (opW.moveV (v := v1) rfl ?_)
    refine WL.op rfl (opW.lenV rfl ((hx.bel hS.old)) ?_)
    refine WL.op rfl (opW.lss rfl rfl ?_)
    refine WL.op rfl (opW.moveB rfl ?_)
    refine WL.gd _ 10 _ rfl rfl rfl rfl (fun hg11 => opW.moveI rfl ⟨rfl, Bel.refl _⟩) (fun w hw => ?_)
    replace hS := hS.bel hw
    refine WL.gd _ 10 _ rfl rfl rfl rfl (fun hg12 => opW.moveV (v := v2) rfl ⟨rfl, Bel.refl _⟩) (fun w hw => ?_)
    replace hS := hS.bel hw
    refine WL.gd _ 10 _ rfl rfl rfl rfl (fun hg13 => opW.lenV (by first | exact gv_of rfl hg13 | rfl) ((hy.bel hS.old)) ⟨rfl, Bel.refl _⟩) (fun w hw => ?_)
    replace hS := hS.bel hw
    refine WL.gd _ 10 _ rfl rfl rfl rfl (fun hg14 => opW.lss (by first | exact gv_of rfl hg14 | rfl) (by first | exact gv_of rfl hg14 | rfl) ⟨rfl, Bel.refl _⟩) (fun w hw => ?_)
    replace hS := hS.bel hw
    refine WL.op rfl (opW.pickAnd rfl (by first | rfl) rfl ?_)
    refine WL.nil ?_
    refine thenQ_n (hK5 _ _ ?_)
    refine WC.cond _ rfl (fun hc0 => ?_) (fun hc0 => ?_)
    ·
      have hr0 := hc0
      try simp only [decide_eq_true_eq, decide_eq_false_iff_not, Bool.and_eq_true, Bool.or_eq_true, Bool.and_eq_false_iff, Bool.or_eq_false_iff, Bool.not_eq_true', Bool.not_eq_false', Int.not_lt, Int.not_le] at hc0
      simp only [Bool.and_eq_true, decide_eq_true_eq] at hr0
      have hk1 : k < x.length := by omega
      have hk2 : k < y.length := by omega
      refine WC.skip ?_
      refine thenQ_n (hK4 _ _ ?_)
      refine WC.seq (fun K6 hK6 => ?_)
      refine WC.block ?_
      refine WC.seq (fun K7 hK7 => ?_)
      refine WC.draw 9 (.look 0 (.look 1 (.look 2 (.look 3 (.look 4 (.look 5 (.look 6 (.look 7 (.look 8 .nil))))))))) (by kernel_rfl) (fun _ _ _ h => h) (fun w1 hw1 => ?_)
      replace hS := hS.bel hw1
      have hS1 := hS
      have hT := St.start w1
      refine ML.look rfl rfl rfl (fun w hw => (by have hS := hS1.bel hw; exact opW.moveV (v := v1) rfl ⟨rfl, rfl⟩)) ?_
      refine ML.look rfl rfl rfl (fun w hw => (by have hS := hS1.bel hw; exact opW.moveI rfl ⟨rfl, rfl⟩)) ?_
      refine ML.look rfl rfl rfl (fun w hw => (by have hS := hS1.bel hw; exact opW.idxV rfl ((hx.bel hS.old)) rfl (by omega) ⟨rfl, rfl⟩)) ?_
      refine ML.look rfl rfl rfl (fun w hw => (by have hS := hS1.bel hw; exact opW.loadV rfl (((hx.bel hS.old).isPt hk1).ld rfl) ⟨rfl, rfl⟩)) ?_
      refine ML.look rfl rfl rfl (fun w hw => (by have hS := hS1.bel hw; exact opW.moveV (v := v2) rfl ⟨rfl, rfl⟩)) ?_
      refine ML.look rfl rfl rfl (fun w hw => (by have hS := hS1.bel hw; exact opW.moveI rfl ⟨rfl, rfl⟩)) ?_
      refine ML.look rfl rfl rfl (fun w hw => (by have hS := hS1.bel hw; exact opW.idxV rfl ((hy.bel hS.old)) rfl (by omega) ⟨rfl, rfl⟩)) ?_
      refine ML.look rfl rfl rfl (fun w hw => (by have hS := hS1.bel hw; exact opW.loadV rfl (((hy.bel hS.old).isPt hk2).ld rfl) ⟨rfl, rfl⟩)) ?_
      refine ML.look rfl rfl rfl (fun w hw => (by have hS := hS1.bel hw; exact opW.neq rfl rfl ⟨rfl, rfl⟩)) ?_
      refine ML.nil ?_
      refine thenQ_n (hK7 _ _ ?_)
      refine WC.cond _ rfl (fun hc1 => ?_) (fun hc1 => ?_)
      ·
        have hr1 := hc1
        try simp only [decide_eq_true_eq, decide_eq_false_iff_not, Bool.and_eq_true, Bool.or_eq_true, Bool.and_eq_false_iff, Bool.or_eq_false_iff, Bool.not_eq_true', Bool.not_eq_false', Int.not_lt, Int.not_le] at hc1
        refine WC.seq (fun K8 hK8 => ?_)
        refine WC.region ?_
        refine WL.op rfl (opW.assignB rfl ?_)
        refine WL.nil ?_
        refine thenQ_n (hK8 _ _ ?_)
        refine WC.ret ?_
        refine blockQ_r ?_
        refine thenQ_r ?_
        refine thenQ_r ?_
        refine blockQ_r ?_
        refine thenQ_r ?_
        refine bodyQ_ret (.tmpB rfl .nil) ?_
        rw [eqT_ne hk1 hk2 (fun e => by rw [e] at hr1; simp at hr1)]
        exact ⟨rfl, hS.old⟩
      ·
        have hr1 := hc1
        try simp only [decide_eq_true_eq, decide_eq_false_iff_not, Bool.and_eq_true, Bool.or_eq_true, Bool.and_eq_false_iff, Bool.or_eq_false_iff, Bool.not_eq_true', Bool.not_eq_false', Int.not_lt, Int.not_le] at hc1
        refine WC.skip ?_
        refine blockQ_n ?_
        refine thenQ_n (hK6 _ _ ?_)
        refine WC.region ?_
        refine WL.op rfl (opW.moveI rfl ?_)
        refine WL.op rfl (opW.add rfl rfl (wrap_i64 (by omega)) ?_)
        refine WL.op rfl (opW.assignI rfl ?_)
        refine WL.nil ?_
        refine thenQ_n ?_
        exact ⟨x.length - (k + 1), by omega, k + 1, ⟨rfl, rfl, congrArg (Value.int .i64) (by omega), trivial⟩, hS, eqT_step ht hk1 hk2 (I64.ext' (by simpa using hr1)), by omega, rfl⟩
    ·
      have hr0 := hc0
      try simp only [decide_eq_true_eq, decide_eq_false_iff_not, Bool.and_eq_true, Bool.or_eq_true, Bool.and_eq_false_iff, Bool.or_eq_false_iff, Bool.not_eq_true', Bool.not_eq_false', Int.not_lt, Int.not_le] at hc0
      refine WC.exit ?_
      refine thenQ_e ?_
      refine thenQ_e ?_
      refine blockQ_hit ?_
      refine thenQ_n (hK2 _ _ ?_)
      refine WC.seq (fun K9 hK9 => ?_)
      refine WC.region ?_
      refine WL.op rfl (opW.moveV (v := v1) rfl ?_)
      refine WL.op rfl (opW.lenV rfl ((hx.bel hS.old)) ?_)
      refine WL.op rfl (opW.moveV (v := v2) rfl ?_)
      refine WL.op rfl (opW.lenV rfl ((hy.bel hS.old)) ?_)
      refine WL.op rfl (opW.eql rfl rfl ?_)
      refine WL.op rfl (opW.assignB rfl ?_)
      refine WL.nil ?_
      refine thenQ_n (hK9 _ _ ?_)
      refine WC.ret ?_
      refine bodyQ_ret (.tmpB rfl .nil) ?_
      exact ⟨congrArg Value.bool (eqT_done ht (fun h => by simp at hr0; omega)), hS.old⟩

theorem spoil_ok (wb w0 : World) (S : List Ent) (v : Value) (xs : List I64) (hS0 : St wb (ownE v 3 xs :: S) w0) : Ret Try.prog 14 #[v] w0 (fun u w' => ∃ ys : List I64, ys.length = xs.length ∧ St wb (ownE v 3 ys :: S) w') := by
  refine Ret.enter (args := [v]) Try.func14 rfl Try.ntmps14 Try.results14 rfl ?_
  have hS := St.start w0
  replace hS := hS0
  refine WC.seq (fun K1 hK1 => ?_)
  refine WC.region ?_
  refine WL.op rfl (opW.assignI rfl ?_)
  refine WL.nil ?_
  refine thenQ_n (hK1 _ _ ?_)
  refine WC.block ?_
  refine WC.loop (fun q f w => ∃ (k : Nat) (ys : List I64), Fits [(0, v), (2, .int .i64 (k : Int))] f ∧ St wb (ownE v 3 ys :: S) w ∧ ys.length = xs.length ∧ k ≤ xs.length ∧ q = xs.length - k) (xs.length) ?_ ?_
  ·
    exact ⟨0, xs, ⟨rfl, rfl, trivial⟩, hS, rfl, Nat.zero_le _, rfl⟩
  ·
    rintro q f w ⟨k, ys, hfit, hS, hy, hk0, hm⟩
    refine WC.fits _ hfit (fun g => ?_)
    clear hfit
    refine WC.seq (fun K2 hK2 => ?_)
    refine WC.seq (fun K3 hK3 => ?_)
    refine WC.region ?_
    refine WL.op rfl (opW.moveI rfl ?_)
    refine WL.op rfl (opW.moveV (v := v) rfl ?_)
    refine WL.op rfl (opW.lenV rfl (hS.sl (v := v) (xs := ys) (by first | exact .h0 | exact .h1 | exact .h2 | exact .h3 | exact .h4 | exact .h5 | exact .h6 | exact .h7 | exact .h8 | exact .h9 | exact .h10 | exact .h11 | exact .h12 | exact .h13 | exact .h14)) ?_)
    refine WL.op rfl (opW.lss rfl rfl ?_)
    refine WL.nil ?_
    refine thenQ_n (hK3 _ _ ?_)
    refine WC.cond _ rfl (fun hc0 => ?_) (fun hc0 => ?_)
    ·
      have hr0 := hc0
      try simp only [decide_eq_true_eq, decide_eq_false_iff_not, Bool.and_eq_true, Bool.or_eq_true, Bool.and_eq_false_iff, Bool.or_eq_false_iff, Bool.not_eq_true', Bool.not_eq_false', Int.not_lt, Int.not_le] at hc0
      have hk1 : k < ys.length := by omega
      have hyl := (hS.sl (v := v) (xs := ys) (by first | exact .h0 | exact .h1 | exact .h2 | exact .h3 | exact .h4 | exact .h5 | exact .h6 | exact .h7 | exact .h8 | exact .h9 | exact .h10 | exact .h11 | exact .h12 | exact .h13 | exact .h14)).le
      simp only [maxLen] at hyl
      refine WC.skip ?_
      refine thenQ_n (hK2 _ _ ?_)
      refine WC.seq (fun K4 hK4 => ?_)
      refine WC.block ?_
      refine WC.region ?_
      refine WL.op rfl (opW.moveV (v := v) rfl ?_)
      refine WL.op rfl (opW.moveI rfl ?_)
      refine WL.op rfl (opW.idxV rfl (hS.sl (v := v) (xs := ys) (by first | exact .h0 | exact .h1 | exact .h2 | exact .h3 | exact .h4 | exact .h5 | exact .h6 | exact .h7 | exact .h8 | exact .h9 | exact .h10 | exact .h11 | exact .h12 | exact .h13 | exact .h14)) rfl (by omega) ?_)
      refine WL.op0 (opW.storeOwn (v := v) (u := .int .i64 (-8)) (sz := 1) (xs := ys) (i := k) (off := 0) (y' := (⟨-8⟩ : I64)) hS (by first | exact .h0 | exact .h1 | exact .h2 | exact .h3 | exact .h4 | exact .h5 | exact .h6 | exact .h7 | exact .h8 | exact .h9 | exact .h10 | exact .h11 | exact .h12 | exact .h13 | exact .h14) hk1 (ptrAdd_zero v k (Enc.sz I64)).symm rfl (by rfl) (by decide) (one_int _ _) (spl_all (by rfl)) ?_)
      intro w hS; replace hS := hS _ (by first | exact .h0 | exact .h1 | exact .h2 | exact .h3 | exact .h4 | exact .h5 | exact .h6 | exact .h7 | exact .h8 | exact .h9 | exact .h10 | exact .h11 | exact .h12 | exact .h13 | exact .h14)
      refine WL.nil ?_
      refine blockQ_n ?_
      refine thenQ_n (hK4 _ _ ?_)
      refine WC.region ?_
      refine WL.op rfl (opW.moveI rfl ?_)
      refine WL.op rfl (opW.add rfl rfl (wrap_i64 (by omega)) ?_)
      refine WL.op rfl (opW.assignI rfl ?_)
      refine WL.nil ?_
      refine thenQ_n ?_
      exact ⟨xs.length - (k + 1), by omega, k + 1, ys.set k ⟨-8⟩, ⟨rfl, congrArg (Value.int .i64) (by omega), trivial⟩, hS, by rw [List.length_set]; exact hy, by omega, rfl⟩
    ·
      have hr0 := hc0
      try simp only [decide_eq_true_eq, decide_eq_false_iff_not, Bool.and_eq_true, Bool.or_eq_true, Bool.and_eq_false_iff, Bool.or_eq_false_iff, Bool.not_eq_true', Bool.not_eq_false', Int.not_lt, Int.not_le] at hc0
      refine WC.exit ?_
      refine thenQ_e ?_
      refine thenQ_e ?_
      refine blockQ_hit ?_
      refine bodyQ_end .nil ?_
      exact ⟨ys, hy, hS⟩

theorem great_ok (w0 : World) (v : Value) (xs : List Act) (ac : Nat → List I64) (hx : SlR w0 v xs) (hac : ∀ i (hi : i < xs.length), SlR w0 (xs[i]'hi).batch.v (ac i)) (hxb : xs.length ≤ 17592186044416) (hab : ∀ i, i < xs.length → (ac i).length ≤ 17592186044416) : Ret Try.prog 7 #[v] w0 (fun u w' => ∃ b, u = .bool b ∧ (b = false → xs.length + sumL ac xs.length ≤ 800) ∧ Bel w0 w') := by
  refine Ret.enter (args := [v]) Try.func7 rfl Try.ntmps7 Try.results7 rfl ?_
  have hS := St.start w0
  refine WC.seq (fun K1 hK1 => ?_)
  refine WC.region ?_
  refine WL.op rfl (opW.assignB rfl ?_)
  refine WL.nil ?_
  refine thenQ_n (hK1 _ _ ?_)
  refine WC.seq (fun K2 hK2 => ?_)
  refine WC.region ?_
  refine WL.op rfl (opW.moveV (v := v) rfl ?_)
  refine WL.op rfl (opW.lenV rfl ((hx.bel hS.old)) ?_)
  refine WL.op rfl (opW.assignI rfl ?_)
  refine WL.nil ?_
  refine thenQ_n (hK2 _ _ ?_)
  refine WC.seq (fun K3 hK3 => ?_)
  refine WC.seq (fun K4 hK4 => ?_)
  refine WC.region ?_
  refine WL.op rfl (opW.assignI rfl ?_)
  refine WL.nil ?_
  refine thenQ_n (hK4 _ _ ?_)
  refine WC.block ?_
  refine WC.loop (fun q f w => ∃ k n : Nat, Fits [(0, v), (3, .int .i64 (n : Int)), (4, .int .i64 (k : Int))] f ∧ St w0 [] w ∧ n = xs.length + sumL ac k ∧ n ≤ 17592186044416 + 2000 ∧ k ≤ xs.length ∧ q = xs.length - k) (xs.length) ?_ ?_
  ·
    exact ⟨0, xs.length, ⟨rfl, rfl, rfl, trivial⟩, hS, rfl, by omega, Nat.zero_le _, rfl⟩
  ·
    rintro q f w ⟨k, n, hfit, hS, hn, hnb, hk0, hm⟩
    refine WC.fits _ hfit (fun g => ?_)
    clear hfit
    refine WC.seq (fun K5 hK5 => ?_)
    refine WC.seq (fun K6 hK6 => ?_)
    refine WC.region ?_
    refine WL.op rfl (opW.moveI rfl ?_)
    refine WL.op rfl (opW.moveV (v := v) rfl ?_)
    refine WL.op rfl (opW.lenV rfl ((hx.bel hS.old)) ?_)
    refine WL.op rfl (opW.lss rfl rfl ?_)
    refine WL.op rfl (opW.moveB rfl ?_)
    refine WL.gd _ 11 _ rfl rfl rfl rfl (fun hg12 => opW.moveI rfl ⟨rfl, Bel.refl _⟩) (fun w hw => ?_)
    replace hS := hS.bel hw
    refine WL.gd _ 11 _ rfl rfl rfl rfl (fun hg13 => opW.lss (by first | exact gv_of rfl hg13 | rfl) rfl ⟨rfl, Bel.refl _⟩) (fun w hw => ?_)
    replace hS := hS.bel hw
    refine WL.op rfl (opW.pickAnd rfl (by first | rfl) rfl ?_)
    refine WL.nil ?_
    refine thenQ_n (hK6 _ _ ?_)
    refine WC.cond _ rfl (fun hc0 => ?_) (fun hc0 => ?_)
    ·
      have hr0 := hc0
      try simp only [decide_eq_true_eq, decide_eq_false_iff_not, Bool.and_eq_true, Bool.or_eq_true, Bool.and_eq_false_iff, Bool.or_eq_false_iff, Bool.not_eq_true', Bool.not_eq_false', Int.not_lt, Int.not_le] at hc0
      simp only [Bool.and_eq_true, decide_eq_true_eq] at hr0
      have hk1 : k < xs.length := by omega
      have hal := hab k hk1
      refine WC.skip ?_
      refine thenQ_n (hK5 _ _ ?_)
      refine WC.seq (fun K7 hK7 => ?_)
      refine WC.block ?_
      refine WC.region ?_
      refine WL.op rfl (opW.moveI rfl ?_)
      refine WL.op rfl (opW.moveV (v := v) rfl ?_)
      refine WL.op rfl (opW.moveI rfl ?_)
      refine WL.op rfl (opW.idxV rfl ((hx.bel hS.old)) rfl (by omega) ?_)
      refine WL.op rfl (opW.fieldAddr rfl ((hx.bel hS.old).isP hk1) ?_)
      refine WL.op rfl (opW.loadV rfl (Ld.pt1 ((hx.bel hS.old).isPt hk1) 2 (Act.at_batch _)) ?_)
      refine WL.op rfl (opW.lenV rfl (((hac k hk1).bel hS.old)) ?_)
      refine WL.op rfl (opW.add rfl rfl ((wrap_i64 (by omega)).trans (by omega : _ = ((n + (ac k).length : Nat) : Int))) ?_)
      refine WL.op rfl (opW.assignI rfl ?_)
      refine WL.nil ?_
      refine blockQ_n ?_
      refine thenQ_n (hK7 _ _ ?_)
      refine WC.region ?_
      refine WL.op rfl (opW.moveI rfl ?_)
      refine WL.op rfl (opW.add rfl rfl (wrap_i64 (by omega)) ?_)
      refine WL.op rfl (opW.assignI rfl ?_)
      refine WL.nil ?_
      refine thenQ_n ?_
      exact ⟨xs.length - (k + 1), by omega, k + 1, n + (ac k).length, ⟨rfl, rfl, congrArg (Value.int .i64) (by omega), trivial⟩, hS, by rw [hn]; show _ = xs.length + (sumL ac k + (ac k).length); omega, by omega, by omega, rfl⟩
    ·
      have hr0 := hc0
      try simp only [decide_eq_true_eq, decide_eq_false_iff_not, Bool.and_eq_true, Bool.or_eq_true, Bool.and_eq_false_iff, Bool.or_eq_false_iff, Bool.not_eq_true', Bool.not_eq_false', Int.not_lt, Int.not_le] at hc0
      refine WC.exit ?_
      refine thenQ_e ?_
      refine thenQ_e ?_
      refine blockQ_hit ?_
      refine thenQ_n (hK3 _ _ ?_)
      refine WC.seq (fun K8 hK8 => ?_)
      refine WC.region ?_
      refine WL.op rfl (opW.moveI rfl ?_)
      refine WL.op rfl (opW.gtr rfl rfl ?_)
      refine WL.op rfl (opW.assignB rfl ?_)
      refine WL.nil ?_
      refine thenQ_n (hK8 _ _ ?_)
      refine WC.ret ?_
      refine bodyQ_ret (.tmpB rfl .nil) ?_
      refine ⟨_, rfl, fun hb => ?_, hS.old⟩
      simp at hb hr0
      obtain rfl : k = xs.length := by omega
      omega

theorem alike_ok (w0 : World) (va vb : Value) (A B : Cn) (ha : NestR w0 va A) (hb : NestR w0 vb B) : Ret Try.prog 20 #[va, vb] w0 (fun u w' => u = .bool (decide (A = B)) ∧ Bel w0 w') := by
  refine Ret.enter (args := [va, vb]) Try.func20 rfl Try.ntmps20 Try.results20 rfl ?_
  have hS := St.start w0
  obtain ⟨la, ha1, ha2, ha3⟩ := ha
  obtain ⟨lb, hb1, hb2, hb3⟩ := hb
  have hlal := ha1.le
  simp only [maxLen] at hlal
  refine WC.seq (fun K1 hK1 => ?_)
  refine WC.region ?_
  refine WL.op rfl (opW.assignB rfl ?_)
  refine WL.nil ?_
  refine thenQ_n (hK1 _ _ ?_)
  refine WC.seq (fun K2 hK2 => ?_)
  refine WC.seq (fun K3 hK3 => ?_)
  refine WC.region ?_
  refine WL.op rfl (opW.assignI rfl ?_)
  refine WL.nil ?_
  refine thenQ_n (hK3 _ _ ?_)
  refine WC.block ?_
  refine WC.loop (fun q f w => ∃ k : Nat, Fits [(0, va), (1, vb), (5, .int .i64 (k : Int))] f ∧ St w0 [] w ∧ A.take k = B.take k ∧ k ≤ A.length ∧ q = A.length - k) (A.length) ?_ ?_
  ·
    exact ⟨0, ⟨rfl, rfl, rfl, trivial⟩, hS, rfl, Nat.zero_le _, rfl⟩
  ·
    rintro q f w ⟨k, hfit, hS, ht, hk0, hm⟩
    refine WC.fits _ hfit (fun g => ?_)
    clear hfit
    refine WC.seq (fun K4 hK4 => ?_)
    refine WC.seq (fun K5 hK5 => ?_)
    refine WC.region ?_
    refine WL.op rfl (opW.moveI rfl ?_)
    refine WL.op rfl (opW.moveV (v := va) rfl ?_)
    refine WL.op rfl (opW.lenV rfl ((ha1.bel hS.old)) ?_)
    refine WL.op rfl (opW.lss rfl rfl ?_)
    refine WL.op rfl (opW.moveB rfl ?_)
    refine WL.gd _ 11 _ rfl rfl rfl rfl (fun hg12 => opW.moveI rfl ⟨rfl, Bel.refl _⟩) (fun w hw => ?_)
    replace hS := hS.bel hw
    refine WL.gd _ 11 _ rfl rfl rfl rfl (fun hg13 => opW.moveV (v := vb) rfl ⟨rfl, Bel.refl _⟩) (fun w hw => ?_)
    replace hS := hS.bel hw
    refine WL.gd _ 11 _ rfl rfl rfl rfl (fun hg14 => opW.lenV (by first | exact gv_of rfl hg14 | rfl) ((hb1.bel hS.old)) ⟨rfl, Bel.refl _⟩) (fun w hw => ?_)
    replace hS := hS.bel hw
    refine WL.gd _ 11 _ rfl rfl rfl rfl (fun hg15 => opW.lss (by first | exact gv_of rfl hg15 | rfl) (by first | exact gv_of rfl hg15 | rfl) ⟨rfl, Bel.refl _⟩) (fun w hw => ?_)
    replace hS := hS.bel hw
    refine WL.op rfl (opW.pickAnd rfl (by first | rfl) rfl ?_)
    refine WL.nil ?_
    refine thenQ_n (hK5 _ _ ?_)
    refine WC.cond _ rfl (fun hc0 => ?_) (fun hc0 => ?_)
    ·
      have hr0 := hc0
      try simp only [decide_eq_true_eq, decide_eq_false_iff_not, Bool.and_eq_true, Bool.or_eq_true, Bool.and_eq_false_iff, Bool.or_eq_false_iff, Bool.not_eq_true', Bool.not_eq_false', Int.not_lt, Int.not_le] at hc0
      simp only [Bool.and_eq_true, decide_eq_true_eq] at hr0
      have hk1 : k < la.length := by omega
      have hk2 : k < lb.length := by omega
      have hkA : k < A.length := by omega
      have hkB : k < B.length := by omega
      obtain ⟨ca, hca1, hca2, hca3⟩ := ha3 k hk1 hkA
      obtain ⟨cb, hcb1, hcb2, hcb3⟩ := hb3 k hk2 hkB
      have hcl := hca1.le
      simp only [maxLen] at hcl
      refine WC.skip ?_
      refine thenQ_n (hK4 _ _ ?_)
      refine WC.seq (fun K6 hK6 => ?_)
      refine WC.block ?_
      refine WC.seq (fun K7 hK7 => ?_)
      refine WC.seq (fun K8 hK8 => ?_)
      refine WC.draw 11 (.look 0 (.look 1 (.look 2 (.look 3 (.look 4 (.look 5 (.look 6 (.look 7 (.look 8 (.look 9 (.look 10 .nil))))))))))) (by kernel_rfl) (fun _ _ _ h => h) (fun w1 hw1 => ?_)
      replace hS := hS.bel hw1
      have hS1 := hS
      have hT := St.start w1
      refine ML.look rfl rfl rfl (fun w hw => (by have hS := hS1.bel hw; exact opW.moveV (v := va) rfl ⟨rfl, rfl⟩)) ?_
      refine ML.look rfl rfl rfl (fun w hw => (by have hS := hS1.bel hw; exact opW.moveI rfl ⟨rfl, rfl⟩)) ?_
      refine ML.look rfl rfl rfl (fun w hw => (by have hS := hS1.bel hw; exact opW.idxV rfl ((ha1.bel hS.old)) rfl (by omega) ⟨rfl, rfl⟩)) ?_
      refine ML.look rfl rfl rfl (fun w hw => (by have hS := hS1.bel hw; exact opW.loadV rfl (((ha1.bel hS.old).isPt hk1).ld rfl) ⟨rfl, rfl⟩)) ?_
      refine ML.look rfl rfl rfl (fun w hw => (by have hS := hS1.bel hw; exact opW.lenV rfl ((hca1.bel hS.old)) ⟨rfl, rfl⟩)) ?_
      refine ML.look rfl rfl rfl (fun w hw => (by have hS := hS1.bel hw; exact opW.moveV (v := vb) rfl ⟨rfl, rfl⟩)) ?_
      refine ML.look rfl rfl rfl (fun w hw => (by have hS := hS1.bel hw; exact opW.moveI rfl ⟨rfl, rfl⟩)) ?_
      refine ML.look rfl rfl rfl (fun w hw => (by have hS := hS1.bel hw; exact opW.idxV rfl ((hb1.bel hS.old)) rfl (by omega) ⟨rfl, rfl⟩)) ?_
      refine ML.look rfl rfl rfl (fun w hw => (by have hS := hS1.bel hw; exact opW.loadV rfl (((hb1.bel hS.old).isPt hk2).ld rfl) ⟨rfl, rfl⟩)) ?_
      refine ML.look rfl rfl rfl (fun w hw => (by have hS := hS1.bel hw; exact opW.lenV rfl ((hcb1.bel hS.old)) ⟨rfl, rfl⟩)) ?_
      refine ML.look rfl rfl rfl (fun w hw => (by have hS := hS1.bel hw; exact opW.neq rfl rfl ⟨rfl, rfl⟩)) ?_
      refine ML.nil ?_
      refine thenQ_n (hK8 _ _ ?_)
      refine WC.cond _ rfl (fun hc1 => ?_) (fun hc1 => ?_)
      ·
        have hr1 := hc1
        try simp only [decide_eq_true_eq, decide_eq_false_iff_not, Bool.and_eq_true, Bool.or_eq_true, Bool.and_eq_false_iff, Bool.or_eq_false_iff, Bool.not_eq_true', Bool.not_eq_false', Int.not_lt, Int.not_le] at hc1
        refine WC.seq (fun K9 hK9 => ?_)
        refine WC.region ?_
        refine WL.op rfl (opW.assignB rfl ?_)
        refine WL.nil ?_
        refine thenQ_n (hK9 _ _ ?_)
        refine WC.ret ?_
        refine thenQ_r ?_
        refine blockQ_r ?_
        refine thenQ_r ?_
        refine thenQ_r ?_
        refine blockQ_r ?_
        refine thenQ_r ?_
        refine bodyQ_ret (.tmpB rfl .nil) ?_
        rw [eqT_ne hkA hkB (fun e => by rw [← e] at hcb2; simp at hr1; omega)]
        exact ⟨rfl, hS.old⟩
      ·
        have hr1 := hc1
        try simp only [decide_eq_true_eq, decide_eq_false_iff_not, Bool.and_eq_true, Bool.or_eq_true, Bool.and_eq_false_iff, Bool.or_eq_false_iff, Bool.not_eq_true', Bool.not_eq_false', Int.not_lt, Int.not_le] at hc1
        have hll : ca.length = cb.length := by simp at hr1; omega
        refine WC.skip ?_
        refine thenQ_n (hK7 _ _ ?_)
        refine WC.seq (fun K10 hK10 => ?_)
        refine WC.region ?_
        refine WL.op rfl (opW.assignI rfl ?_)
        refine WL.nil ?_
        refine thenQ_n (hK10 _ _ ?_)
        refine WC.block ?_
        refine WC.loop (fun q2 f w => ∃ m : Nat, Fits [(0, va), (1, vb), (5, .int .i64 (k : Int)), (6, .int .i64 (m : Int))] f ∧ St w0 [] w ∧ A[k].take m = B[k].take m ∧ m ≤ ca.length ∧ q2 = ca.length - m) (ca.length) ?_ ?_
        ·
          exact ⟨0, ⟨rfl, rfl, rfl, rfl, trivial⟩, hS, rfl, Nat.zero_le _, rfl⟩
        ·
          rintro q2 f w ⟨m, hfit, hS, ht2, hm0, hm2⟩
          refine WC.fits _ hfit (fun g => ?_)
          clear hfit
          refine WC.seq (fun K11 hK11 => ?_)
          refine WC.seq (fun K12 hK12 => ?_)
          refine WC.region ?_
          refine WL.op rfl (opW.moveI rfl ?_)
          refine WL.op rfl (opW.moveV (v := va) rfl ?_)
          refine WL.op rfl (opW.moveI rfl ?_)
          refine WL.op rfl (opW.idxV rfl ((ha1.bel hS.old)) rfl (by omega) ?_)
          refine WL.op rfl (opW.loadV rfl (((ha1.bel hS.old).isPt hk1).ld rfl) ?_)
          refine WL.op rfl (opW.lenV rfl ((hca1.bel hS.old)) ?_)
          refine WL.op rfl (opW.lss rfl rfl ?_)
          refine WL.nil ?_
          refine thenQ_n (hK12 _ _ ?_)
          refine WC.cond _ rfl (fun hc2 => ?_) (fun hc2 => ?_)
          ·
            have hr2 := hc2
            try simp only [decide_eq_true_eq, decide_eq_false_iff_not, Bool.and_eq_true, Bool.or_eq_true, Bool.and_eq_false_iff, Bool.or_eq_false_iff, Bool.not_eq_true', Bool.not_eq_false', Int.not_lt, Int.not_le] at hc2
            have hm1 : m < ca.length := by omega
            have hm3 : m < cb.length := by omega
            have hmA : m < A[k].length := by omega
            have hmB : m < B[k].length := by omega
            refine WC.skip ?_
            refine thenQ_n (hK11 _ _ ?_)
            refine WC.seq (fun K13 hK13 => ?_)
            refine WC.block ?_
            refine WC.seq (fun K14 hK14 => ?_)
            refine WC.draw 16 (.look 0 (.look 1 (.look 2 (.look 3 (.look 4 (.look 5 (.look 6 (.look 7 (.look 8 (.look 9 (.look 10 (.look 11 (.look 12 (.look 13 (.one 14 (.look 15 .nil)))))))))))))))) (by kernel_rfl) (fun _ _ _ h => h) (fun w1 hw1 => ?_)
            replace hS := hS.bel hw1
            have hS1 := hS
            have hT := St.start w1
            refine ML.look rfl rfl rfl (fun w hw => (by have hS := hS1.bel hw; exact opW.moveV (v := va) rfl ⟨rfl, rfl⟩)) ?_
            refine ML.look rfl rfl rfl (fun w hw => (by have hS := hS1.bel hw; exact opW.moveI rfl ⟨rfl, rfl⟩)) ?_
            refine ML.look rfl rfl rfl (fun w hw => (by have hS := hS1.bel hw; exact opW.idxV rfl ((ha1.bel hS.old)) rfl (by omega) ⟨rfl, rfl⟩)) ?_
            refine ML.look rfl rfl rfl (fun w hw => (by have hS := hS1.bel hw; exact opW.loadV rfl (((ha1.bel hS.old).isPt hk1).ld rfl) ⟨rfl, rfl⟩)) ?_
            refine ML.look rfl rfl rfl (fun w hw => (by have hS := hS1.bel hw; exact opW.moveI rfl ⟨rfl, rfl⟩)) ?_
            refine ML.look rfl rfl rfl (fun w hw => (by have hS := hS1.bel hw; exact opW.idxV rfl ((hca1.bel hS.old)) rfl (by omega) ⟨rfl, rfl⟩)) ?_
            refine ML.look rfl rfl rfl (fun w hw => (by have hS := hS1.bel hw; exact opW.loadV rfl (((hca1.bel hS.old).isPt hm1).ld rfl) ⟨rfl, rfl⟩)) ?_
            refine ML.look rfl rfl rfl (fun w hw => (by have hS := hS1.bel hw; exact opW.moveV (v := vb) rfl ⟨rfl, rfl⟩)) ?_
            refine ML.look rfl rfl rfl (fun w hw => (by have hS := hS1.bel hw; exact opW.moveI rfl ⟨rfl, rfl⟩)) ?_
            refine ML.look rfl rfl rfl (fun w hw => (by have hS := hS1.bel hw; exact opW.idxV rfl ((hb1.bel hS.old)) rfl (by omega) ⟨rfl, rfl⟩)) ?_
            refine ML.look rfl rfl rfl (fun w hw => (by have hS := hS1.bel hw; exact opW.loadV rfl (((hb1.bel hS.old).isPt hk2).ld rfl) ⟨rfl, rfl⟩)) ?_
            refine ML.look rfl rfl rfl (fun w hw => (by have hS := hS1.bel hw; exact opW.moveI rfl ⟨rfl, rfl⟩)) ?_
            refine ML.look rfl rfl rfl (fun w hw => (by have hS := hS1.bel hw; exact opW.idxV rfl ((hcb1.bel hS.old)) rfl (by omega) ⟨rfl, rfl⟩)) ?_
            refine ML.look rfl rfl rfl (fun w hw => (by have hS := hS1.bel hw; exact opW.loadV rfl (((hcb1.bel hS.old).isPt hm3).ld rfl) ⟨rfl, rfl⟩)) ?_
            refine ML.one rfl rfl rfl (opW.call (same_ok _ _ _ A[k][m] B[k][m] ((hca3 m hm1 hmA).bel hS.old) ((hcb3 m hm3 hmB).bel hS.old)) rfl ?_)
            rintro _ w ⟨rfl, hw⟩; replace hT := hT.bel hw
            refine ⟨hT.old, ?_⟩
            have hS := hS1.merge hT
            try simp only [List.cons_append, List.nil_append] at hS
            refine ML.look rfl rfl rfl (fun w hw => (by have hS := hS1.bel hw; exact opW.not rfl ⟨rfl, rfl⟩)) ?_
            refine ML.nil ?_
            refine thenQ_n (hK14 _ _ ?_)
            refine WC.cond _ rfl (fun hc3 => ?_) (fun hc3 => ?_)
            ·
              have hr3 := hc3
              try simp only [decide_eq_true_eq, decide_eq_false_iff_not, Bool.and_eq_true, Bool.or_eq_true, Bool.and_eq_false_iff, Bool.or_eq_false_iff, Bool.not_eq_true', Bool.not_eq_false', Int.not_lt, Int.not_le] at hc3
              refine WC.seq (fun K15 hK15 => ?_)
              refine WC.region ?_
              refine WL.op rfl (opW.assignB rfl ?_)
              refine WL.nil ?_
              refine thenQ_n (hK15 _ _ ?_)
              refine WC.ret ?_
              refine blockQ_r ?_
              refine thenQ_r ?_
              refine thenQ_r ?_
              refine blockQ_r ?_
              refine blockQ_r ?_
              refine thenQ_r ?_
              refine thenQ_r ?_
              refine blockQ_r ?_
              refine thenQ_r ?_
              refine bodyQ_ret (.tmpB rfl .nil) ?_
              rw [eqT_ne hkA hkB (fun e => by simp at hr3; exact hr3 (by simp only [e]))]
              exact ⟨rfl, hS.old⟩
            ·
              have hr3 := hc3
              try simp only [decide_eq_true_eq, decide_eq_false_iff_not, Bool.and_eq_true, Bool.or_eq_true, Bool.and_eq_false_iff, Bool.or_eq_false_iff, Bool.not_eq_true', Bool.not_eq_false', Int.not_lt, Int.not_le] at hc3
              refine WC.skip ?_
              refine blockQ_n ?_
              refine thenQ_n (hK13 _ _ ?_)
              refine WC.region ?_
              refine WL.op rfl (opW.moveI rfl ?_)
              refine WL.op rfl (opW.add rfl rfl (wrap_i64 (by omega)) ?_)
              refine WL.op rfl (opW.assignI rfl ?_)
              refine WL.nil ?_
              refine thenQ_n ?_
              exact ⟨ca.length - (m + 1), by omega, m + 1, ⟨rfl, rfl, rfl, congrArg (Value.int .i64) (by omega), trivial⟩, hS, eqT_step ht2 hmA hmB (by simpa using hr3), by omega, rfl⟩
          ·
            have hr2 := hc2
            try simp only [decide_eq_true_eq, decide_eq_false_iff_not, Bool.and_eq_true, Bool.or_eq_true, Bool.and_eq_false_iff, Bool.or_eq_false_iff, Bool.not_eq_true', Bool.not_eq_false', Int.not_lt, Int.not_le] at hc2
            have heq : A[k] = B[k] := by
              have h := eqT_done ht2 (by omega)
              rw [decide_eq_true (by omega)] at h
              exact of_decide_eq_true h.symm
            refine WC.exit ?_
            refine thenQ_e ?_
            refine thenQ_e ?_
            refine blockQ_hit ?_
            refine blockQ_n ?_
            refine thenQ_n (hK6 _ _ ?_)
            refine WC.region ?_
            refine WL.op rfl (opW.moveI rfl ?_)
            refine WL.op rfl (opW.add rfl rfl (wrap_i64 (by omega)) ?_)
            refine WL.op rfl (opW.assignI rfl ?_)
            refine WL.nil ?_
            refine thenQ_n ?_
            exact ⟨A.length - (k + 1), by omega, k + 1, ⟨rfl, rfl, congrArg (Value.int .i64) (by omega), trivial⟩, hS, eqT_step ht hkA hkB heq, by omega, rfl⟩
    ·
      have hr0 := hc0
      try simp only [decide_eq_true_eq, decide_eq_false_iff_not, Bool.and_eq_true, Bool.or_eq_true, Bool.and_eq_false_iff, Bool.or_eq_false_iff, Bool.not_eq_true', Bool.not_eq_false', Int.not_lt, Int.not_le] at hc0
      refine WC.exit ?_
      refine thenQ_e ?_
      refine thenQ_e ?_
      refine blockQ_hit ?_
      refine thenQ_n (hK2 _ _ ?_)
      refine WC.seq (fun K16 hK16 => ?_)
      refine WC.region ?_
      refine WL.op rfl (opW.moveV (v := va) rfl ?_)
      refine WL.op rfl (opW.lenV rfl ((ha1.bel hS.old)) ?_)
      refine WL.op rfl (opW.moveV (v := vb) rfl ?_)
      refine WL.op rfl (opW.lenV rfl ((hb1.bel hS.old)) ?_)
      refine WL.op rfl (opW.eql rfl rfl ?_)
      refine WL.op rfl (opW.assignB rfl ?_)
      refine WL.nil ?_
      refine thenQ_n (hK16 _ _ ?_)
      refine WC.ret ?_
      refine bodyQ_ret (.tmpB rfl .nil) ?_
      rw [ha2, hb2]
      exact ⟨congrArg Value.bool (eqT_done ht (fun h => by simp at hr0; omega)), hS.old⟩

end Go.Fer
