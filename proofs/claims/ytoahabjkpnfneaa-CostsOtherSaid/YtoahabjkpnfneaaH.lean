/- the answers -/
import Derived.Test.YtoahabjkpnfneaaG
set_option linter.all false
namespace Go.Fer
open Go Go.Proofs Go.RowKit

theorem bith {P j : Nat} (h : 64 ≤ j) : P / 2 ^ j % 2 = P / 18446744073709551616 / 2 ^ (j - 64) % 2 := by
  have h1 := bit_hi (hi := P / 18446744073709551616) (lo := P % 18446744073709551616) (Nat.mod_lt _ (by decide)) h
  rw [Nat.div_add_mod'] at h1
  exact h1
theorem bitl {P j : Nat} (h : j < 64) : P / 2 ^ j % 2 = P % 18446744073709551616 / 2 ^ j % 2 := by
  have h1 := bit_lo (hi := P / 18446744073709551616) (lo := P % 18446744073709551616) (Nat.mod_lt _ (by decide)) h
  rw [Nat.div_add_mod'] at h1
  exact h1
theorem nshrB {a k : Nat} : Int.fdiv (a : Int) (2 ^ (min (Int.toNat (k : Int)) IntKind.u64.bits)) = ((a / 2 ^ min k 64 : Nat) : Int) := by
  have h := nshr (a := a) (k := min k 64) (Nat.min_le_right _ _)
  rw [← h]
  congr 2
  simp only [Int.toNat_natCast, IntKind.bits]
  omega
theorem tm_end {a b d n r : Nat} {up : Bool} (e1 : a * b / d = n) (e2 : a * b % d = r) (e3 : ¬ d ≤ a * b / 18446744073709551616) (hn : n < 18446744073709551616) : tmF a b d up = if up = true ∧ 0 < r ∧ n < 18446744073709551615 then n + 1 else n := by
  unfold tmF sumH
  rw [if_neg e3, e1, e2]
  cases up with
  | false => simp
  | true =>
    simp only [Bool.true_and, decide_eq_true_eq, true_and]
    by_cases hr : 0 < r
    · rw [if_pos hr]
      by_cases h1 : n < 18446744073709551615
      · rw [if_pos (by omega), if_pos ⟨hr, h1⟩]
      · rw [if_neg (by omega), if_neg (by omega)]; omega
    · rw [if_neg hr, if_neg (by omega)]
theorem ab_lt {a b : Nat} (ha : a < 18446744073709551616) (hb : b < 18446744073709551616) : a * b / 2 ^ 128 = 0 := by
  rw [Nat.div_eq_of_lt]
  have := Nat.mul_le_mul (show a ≤ 18446744073709551615 by omega) (show b ≤ 18446744073709551615 by omega)
  omega
theorem sum_over {xs : List U64} {k : Nat} (hk : k < xs.length) (h : 18446744073709551615 - sumL (xs.take k) < xs[k].n) : sumL xs = 18446744073709551615 := by
  rw [sumL_min] at h ⊢
  have e : xs = xs.take k ++ xs[k] :: xs.drop (k + 1) := by rw [← List.drop_eq_getElem_cons hk, List.take_append_drop]
  have e2 : (xs.map U64.n).sum = ((xs.take k).map U64.n).sum + (xs[k].n + ((xs.drop (k + 1)).map U64.n).sum) := by
    have e3 := congrArg (fun l => (l.map U64.n).sum) e
    simp only [List.map_append, List.sum_append, List.map_cons, List.sum_cons] at e3
    exact e3
  rw [e2]
  generalize ((xs.take k).map U64.n).sum = p at *
  omega
theorem sum_under {xs : List U64} {k : Nat} (hk : k < xs.length) (h : ¬ 18446744073709551615 - sumL (xs.take k) < xs[k].n) : sumL (xs.take k) + xs[k].n = sumL (xs.take (k + 1)) := by
  have h2 := sumL_lt (xs.take k)
  rw [sumL_step hk]
  unfold sumH
  rw [if_pos (by omega)]

theorem refmul_ok (w0 : World) (a b : Nat) (ha : a < 18446744073709551616) (hb : b < 18446744073709551616) : Ret Try.prog 19 #[.int .u64 ((a : Nat) : Int), .int .u64 ((b : Nat) : Int)] w0 (fun u w' => u = .tuple #[.int .u64 ((a * b / 18446744073709551616 : Nat) : Int), .int .u64 ((a * b % 18446744073709551616 : Nat) : Int)] ∧ Bel w0 w') := by
  refine Ret.enter (args := [.int .u64 ((a : Nat) : Int), .int .u64 ((b : Nat) : Int)]) Try.func19 rfl Try.ntmps19 Try.results19 rfl ?_
  have hS := St.start w0
  refine WC.seq (fun K1 hK1 => ?_)
  refine WC.region ?_
  refine WL.op rfl (opW.assignI rfl ?_)
  refine WL.op rfl (opW.assignI rfl ?_)
  refine WL.nil ?_
  refine thenQ_n (hK1 _ _ ?_)
  refine WC.seq (fun K2 hK2 => ?_)
  refine WC.region ?_
  refine WL.op rfl (opW.moveI rfl ?_)
  refine WL.op rfl (opW.moveI rfl ?_)
  refine WL.op rfl (opW.call (product_ok _ a b ha hb) rfl ?_)
  rintro v9 w ⟨o, ho8, hod, hov, h9, hw⟩; replace hS := hS.newOwn hw h9.1 h9.2
  obtain ⟨e1, e2⟩ := valL_cut hod ho8
  rw [hov] at e1 e2
  have hcp := (hS.sl (v := v9) (xs := o) (by first | exact .here | exact .there (.here) | exact .there (.there (.here)) | exact .there (.there (.there (.here))) | exact .there (.there (.there (.there (.here)))) | exact .there (.there (.there (.there (.there (.here))))) | exact .there (.there (.there (.there (.there (.there (.here)))))) | exact .there (.there (.there (.there (.there (.there (.there (.here))))))) | exact .there (.there (.there (.there (.there (.there (.there (.there (.here)))))))) | exact .there (.there (.there (.there (.there (.there (.there (.there (.there (.here))))))))) | exact .there (.there (.there (.there (.there (.there (.there (.there (.there (.there (.here)))))))))) | exact .there (.there (.there (.there (.there (.there (.there (.there (.there (.there (.there (.here))))))))))) | exact .there (.there (.there (.there (.there (.there (.there (.there (.there (.there (.there (.there (.here)))))))))))))).cap
  refine WL.op rfl (opW.assignV (v := v9) rfl ?_)
  refine WL.nil ?_
  refine thenQ_n (hK2 _ _ ?_)
  refine WC.seq (fun K3 hK3 => ?_)
  refine WC.draw 8 (.look 0 (.look 1 (.look 3 (.look 4 (.one 2 (.one 5 (.look 6 (.look 7 .nil)))))))) (by kernel_rfl) (fun _ _ _ h => h) (fun w1 hw1 => ?_)
  replace hS := hS.bel hw1
  have hS1 := hS
  have hT := St.start w1
  refine ML.look rfl rfl rfl (fun w hw => (by have hS := hS1.bel hw; exact opW.moveV (v := v9) rfl ⟨rfl, rfl⟩)) ?_
  refine ML.look rfl rfl rfl (fun w hw => (by have hS := hS1.bel hw; exact opW.cutS (l := 4) (h' := o.length) (m := capV v9) (hS.sl (v := v9) (xs := o) (by first | exact .here | exact .there (.here) | exact .there (.there (.here)) | exact .there (.there (.there (.here))) | exact .there (.there (.there (.there (.here)))) | exact .there (.there (.there (.there (.there (.here))))) | exact .there (.there (.there (.there (.there (.there (.here)))))) | exact .there (.there (.there (.there (.there (.there (.there (.here))))))) | exact .there (.there (.there (.there (.there (.there (.there (.there (.here)))))))) | exact .there (.there (.there (.there (.there (.there (.there (.there (.there (.here))))))))) | exact .there (.there (.there (.there (.there (.there (.there (.there (.there (.there (.here)))))))))) | exact .there (.there (.there (.there (.there (.there (.there (.there (.there (.there (.there (.here))))))))))) | exact .there (.there (.there (.there (.there (.there (.there (.there (.there (.there (.there (.there (.here)))))))))))))) ⟨rfl, Nat.le_refl _⟩ ⟨⟨rfl, rfl⟩, hcp⟩ ⟨⟨_, rfl⟩, by omega⟩ ⟨rfl, rfl⟩)) ?_
  refine ML.look rfl rfl rfl (fun w hw => (by have hS := hS1.bel hw; exact opW.moveV (v := v9) rfl ⟨rfl, rfl⟩)) ?_
  refine ML.look rfl rfl rfl (fun w hw => (by have hS := hS1.bel hw; exact opW.cutS (l := 0) (h' := 4) (m := capV v9) (hS.sl (v := v9) (xs := o) (by first | exact .here | exact .there (.here) | exact .there (.there (.here)) | exact .there (.there (.there (.here))) | exact .there (.there (.there (.there (.here)))) | exact .there (.there (.there (.there (.there (.here))))) | exact .there (.there (.there (.there (.there (.there (.here)))))) | exact .there (.there (.there (.there (.there (.there (.there (.here))))))) | exact .there (.there (.there (.there (.there (.there (.there (.there (.here)))))))) | exact .there (.there (.there (.there (.there (.there (.there (.there (.there (.here))))))))) | exact .there (.there (.there (.there (.there (.there (.there (.there (.there (.there (.here)))))))))) | exact .there (.there (.there (.there (.there (.there (.there (.there (.there (.there (.there (.here))))))))))) | exact .there (.there (.there (.there (.there (.there (.there (.there (.there (.there (.there (.there (.here)))))))))))))) ⟨rfl, Nat.le_refl _⟩ ⟨⟨_, rfl⟩, by omega⟩ ⟨rfl, Nat.zero_le _⟩ ⟨rfl, rfl⟩)) ?_
  refine ML.one rfl rfl rfl (opW.call (whole_ok _ (cutV v9 4 o.length (capV v9) (Enc.sz U64)) (o.drop 4) (by have h := (hS.sl (v := v9) (xs := o) (by first | exact .here | exact .there (.here) | exact .there (.there (.here)) | exact .there (.there (.there (.here))) | exact .there (.there (.there (.there (.here)))) | exact .there (.there (.there (.there (.there (.here))))) | exact .there (.there (.there (.there (.there (.there (.here)))))) | exact .there (.there (.there (.there (.there (.there (.there (.here))))))) | exact .there (.there (.there (.there (.there (.there (.there (.there (.here)))))))) | exact .there (.there (.there (.there (.there (.there (.there (.there (.there (.here))))))))) | exact .there (.there (.there (.there (.there (.there (.there (.there (.there (.there (.here)))))))))) | exact .there (.there (.there (.there (.there (.there (.there (.there (.there (.there (.there (.here))))))))))) | exact .there (.there (.there (.there (.there (.there (.there (.there (.there (.there (.there (.there (.here)))))))))))))).cut (l := 4) (h := o.length) (m := capV v9) (by omega) (Nat.le_refl _) hcp (Nat.le_refl _); rw [List.take_length] at h; exact h) (by rw [List.length_drop, ho8]) (fun x hx => hod x (List.mem_of_mem_drop hx))) rfl ?_)
  rintro _ w ⟨rfl, hw⟩; replace hT := hT.bel hw
  rw [e1]
  refine ⟨hT.old, ?_⟩
  have hS := hS1.merge hT
  try simp only [List.cons_append, List.nil_append] at hS
  refine ML.one rfl rfl rfl (opW.call (whole_ok _ (cutV v9 0 4 (capV v9) (Enc.sz U64)) (o.take 4) ((hS.sl (v := v9) (xs := o) (by first | exact .here | exact .there (.here) | exact .there (.there (.here)) | exact .there (.there (.there (.here))) | exact .there (.there (.there (.there (.here)))) | exact .there (.there (.there (.there (.there (.here))))) | exact .there (.there (.there (.there (.there (.there (.here)))))) | exact .there (.there (.there (.there (.there (.there (.there (.here))))))) | exact .there (.there (.there (.there (.there (.there (.there (.there (.here)))))))) | exact .there (.there (.there (.there (.there (.there (.there (.there (.there (.here))))))))) | exact .there (.there (.there (.there (.there (.there (.there (.there (.there (.there (.here)))))))))) | exact .there (.there (.there (.there (.there (.there (.there (.there (.there (.there (.there (.here))))))))))) | exact .there (.there (.there (.there (.there (.there (.there (.there (.there (.there (.there (.there (.here)))))))))))))).front (by omega) (by omega) (Nat.le_refl _)) (by rw [List.length_take, ho8]; rfl) (fun x hx => hod x (List.mem_of_mem_take hx))) rfl ?_)
  rintro _ w ⟨rfl, hw⟩; replace hT := hT.bel hw
  rw [e2]
  refine ⟨hT.old, ?_⟩
  have hS := hS1.merge hT
  try simp only [List.cons_append, List.nil_append] at hS
  refine ML.look rfl rfl rfl (fun w hw => (by have hS := hS1.bel hw; exact opW.assignI rfl ⟨rfl, rfl⟩)) ?_
  refine ML.look rfl rfl rfl (fun w hw => (by have hS := hS1.bel hw; exact opW.assignI rfl ⟨rfl, rfl⟩)) ?_
  refine ML.nil ?_
  refine thenQ_n (hK3 _ _ ?_)
  refine WC.ret ?_
  refine bodyQ_ret (.tmpI rfl (.tmpI rfl .nil)) ?_
  exact ⟨rfl, hS.old⟩

theorem reftimes_ok (w0 : World) (a b d : Nat) (up : Bool) (ha : a < 18446744073709551616) (hb : b < 18446744073709551616) (hd : d < 18446744073709551616) : Ret Try.prog 14 #[.int .u64 ((a : Nat) : Int), .int .u64 ((b : Nat) : Int), .int .u64 ((d : Nat) : Int), .bool up] w0 (fun u w' => u = .int .u64 ((tmF a b d up : Nat) : Int) ∧ Bel w0 w') := by
  refine Ret.enter (args := [.int .u64 ((a : Nat) : Int), .int .u64 ((b : Nat) : Int), .int .u64 ((d : Nat) : Int), .bool up]) Try.func14 rfl Try.ntmps14 Try.results14 rfl ?_
  have hS := St.start w0
  refine WC.seq (fun K1 hK1 => ?_)
  refine WC.region ?_
  refine WL.op rfl (opW.assignI rfl ?_)
  refine WL.nil ?_
  refine thenQ_n (hK1 _ _ ?_)
  refine WC.seq (fun K2 hK2 => ?_)
  refine WC.seq (fun K3 hK3 => ?_)
  refine WC.region ?_
  refine WL.op rfl (opW.moveI rfl ?_)
  refine WL.op rfl (opW.eql rfl rfl ?_)
  refine WL.nil ?_
  refine thenQ_n (hK3 _ _ ?_)
  refine WC.cond _ rfl (fun hc0 => ?_) (fun hc0 => ?_)
  ·
    have hr0 := hc0
    try simp only [decide_eq_true_eq, decide_eq_false_iff_not, Bool.and_eq_true, Bool.or_eq_true, Bool.and_eq_false_iff, Bool.or_eq_false_iff, Bool.not_eq_true', Bool.not_eq_false', Int.not_lt, Int.not_le] at hc0
    refine WC.seq (fun K4 hK4 => ?_)
    refine WC.region ?_
    refine WL.op rfl (opW.assignI rfl ?_)
    refine WL.nil ?_
    refine thenQ_n (hK4 _ _ ?_)
    refine WC.ret ?_
    refine thenQ_r ?_
    refine bodyQ_ret (.tmpI rfl .nil) ?_
    refine ⟨?_, hS.old⟩
    obtain rfl : d = 0 := by omega
    unfold tmF
    rw [if_pos (Nat.zero_le _)]
    rfl
  ·
    have hr0 := hc0
    try simp only [decide_eq_true_eq, decide_eq_false_iff_not, Bool.and_eq_true, Bool.or_eq_true, Bool.and_eq_false_iff, Bool.or_eq_false_iff, Bool.not_eq_true', Bool.not_eq_false', Int.not_lt, Int.not_le] at hc0
    refine WC.skip ?_
    refine thenQ_n (hK2 _ _ ?_)
    refine WC.seq (fun K5 hK5 => ?_)
    refine WC.region ?_
    refine WL.op rfl (opW.moveI rfl ?_)
    refine WL.op rfl (opW.moveI rfl ?_)
    refine WL.op rfl (opW.call (refmul_ok _ a b ha hb) rfl ?_)
    rintro _ w ⟨rfl, hw⟩; replace hS := hS.bel hw
    refine WL.op rfl (opW.moveV (v := .tuple #[.int .u64 ((a * b / 18446744073709551616 : Nat) : Int), .int .u64 ((a * b % 18446744073709551616 : Nat) : Int)]) rfl ?_)
    refine WL.op rfl (opW.extract rfl rfl ?_)
    refine WL.op rfl (opW.extract rfl rfl ?_)
    refine WL.op rfl (opW.assignI rfl ?_)
    refine WL.op rfl (opW.assignI rfl ?_)
    refine WL.nil ?_
    refine thenQ_n (hK5 _ _ ?_)
    refine WC.seq (fun K6 hK6 => ?_)
    refine WC.region ?_
    refine WL.op rfl (opW.assignI rfl ?_)
    refine WL.nil ?_
    refine thenQ_n (hK6 _ _ ?_)
    refine WC.seq (fun K7 hK7 => ?_)
    refine WC.region ?_
    refine WL.op rfl (opW.assignI rfl ?_)
    refine WL.nil ?_
    refine thenQ_n (hK7 _ _ ?_)
    refine WC.seq (fun K8 hK8 => ?_)
    refine WC.seq (fun K9 hK9 => ?_)
    refine WC.region ?_
    refine WL.op rfl (opW.assignI rfl ?_)
    refine WL.nil ?_
    refine thenQ_n (hK9 _ _ ?_)
    refine WC.block ?_
    refine WC.loop (fun q f w => ∃ (m n r : Nat) (i : Int), Fits [(2, .int .u64 ((d : Nat) : Int)), (3, .bool up), (9, .int .u64 ((a * b / 18446744073709551616 : Nat) : Int)), (10, .int .u64 ((a * b % 18446744073709551616 : Nat) : Int)), (11, .int .u64 ((r : Nat) : Int)), (12, .int .u64 ((n : Nat) : Int)), (13, .int .i64 i)] f ∧ St w0 [] w ∧ n * d + r = a * b / 2 ^ m ∧ r < d ∧ n < 18446744073709551616 ∧ i = (m : Int) - 1 ∧ m ≤ 128 ∧ q = m) (128) ?_ ?_
    ·
      exact ⟨128, 0, 0, 127, ⟨rfl, rfl, rfl, rfl, rfl, rfl, rfl, trivial⟩, hS, (by rw [ab_lt ha hb, Nat.zero_mul]), by omega, by decide, rfl, Nat.le_refl _, rfl⟩
    ·
      rintro q f w ⟨m, n, r, i, hfit, hS, hdr, hrd, hnM, hi, hm, hq⟩
      refine WC.fits _ hfit (fun g => ?_)
      clear hfit
      refine WC.seq (fun K10 hK10 => ?_)
      refine WC.seq (fun K11 hK11 => ?_)
      refine WC.region ?_
      refine WL.op rfl (opW.moveI rfl ?_)
      refine WL.op rfl (opW.geq rfl rfl ?_)
      refine WL.nil ?_
      refine thenQ_n (hK11 _ _ ?_)
      refine WC.cond _ rfl (fun hc1 => ?_) (fun hc1 => ?_)
      ·
        have hr1 := hc1
        try simp only [decide_eq_true_eq, decide_eq_false_iff_not, Bool.and_eq_true, Bool.or_eq_true, Bool.and_eq_false_iff, Bool.or_eq_false_iff, Bool.not_eq_true', Bool.not_eq_false', Int.not_lt, Int.not_le] at hc1
        obtain ⟨j, rfl⟩ : ∃ j : Nat, i = (j : Int) := ⟨i.toNat, by omega⟩
        obtain rfl : m = j + 1 := by omega
        obtain ⟨bit, hbit⟩ : ∃ bit, bit = a * b / 2 ^ j % 2 := ⟨_, rfl⟩
        have hbl : bit < 2 := by rw [hbit]; exact Nat.mod_lt _ (by decide)
        have hl := long_step hdr hbit
        have hloM : a * b % 18446744073709551616 < 18446744073709551616 := Nat.mod_lt _ (by decide)
        have hhiM := mulHi_lt ha hb
        have hs1 : a * b % 18446744073709551616 / 2 ^ min j 64 < 18446744073709551616 := Nat.lt_of_le_of_lt (Nat.div_le_self _ _) hloM
        have hs2 : a * b / 18446744073709551616 / 2 ^ (j - 64) < 18446744073709551616 := Nat.lt_of_le_of_lt (Nat.div_le_self _ _) hhiM
        refine WC.skip ?_
        refine thenQ_n (hK10 _ _ ?_)
        refine WC.mid (fun f w => ∃ (n2 r2 : Nat), Fits [(2, .int .u64 ((d : Nat) : Int)), (3, .bool up), (9, .int .u64 ((a * b / 18446744073709551616 : Nat) : Int)), (10, .int .u64 ((a * b % 18446744073709551616 : Nat) : Int)), (11, .int .u64 ((r2 : Nat) : Int)), (12, .int .u64 ((n2 : Nat) : Int)), (13, .int .i64 (j : Int))] f ∧ St w0 [] w ∧ n2 * d + r2 = a * b / 2 ^ j ∧ r2 < d ∧ n2 < 18446744073709551616) ?_ ?_
        ·
          refine WC.block ?_
          refine WC.seq (fun K12 hK12 => ?_)
          refine WC.region ?_
          refine WL.op rfl (opW.moveI rfl ?_)
          refine WL.op rfl (opW.moveI rfl ?_)
          refine WL.op rfl (opW.conv rfl (wrap_u64 (by omega)) ?_)
          refine WL.op rfl (opW.shr rfl rfl (by omega) (nshrB) ?_)
          refine WL.op rfl (opW.and rfl rfl (nand1 hs1) ?_)
          refine WL.op rfl (opW.assignI rfl ?_)
          refine WL.nil ?_
          refine thenQ_n (hK12 _ _ ?_)
          refine WC.mid (fun f w =>  Fits [(2, .int .u64 ((d : Nat) : Int)), (3, .bool up), (9, .int .u64 ((a * b / 18446744073709551616 : Nat) : Int)), (10, .int .u64 ((a * b % 18446744073709551616 : Nat) : Int)), (11, .int .u64 ((r : Nat) : Int)), (12, .int .u64 ((n : Nat) : Int)), (13, .int .i64 (j : Int)), (14, .int .u64 ((bit : Nat) : Int))] f ∧ St w0 [] w) ?_ ?_
          ·
            refine WC.seq (fun K13 hK13 => ?_)
            refine WC.region ?_
            refine WL.op rfl (opW.moveI rfl ?_)
            refine WL.op rfl (opW.gtr rfl rfl ?_)
            refine WL.nil ?_
            refine thenQ_n (hK13 _ _ ?_)
            refine WC.cond _ rfl (fun hc2 => ?_) (fun hc2 => ?_)
            ·
              have hr2 := hc2
              try simp only [decide_eq_true_eq, decide_eq_false_iff_not, Bool.and_eq_true, Bool.or_eq_true, Bool.and_eq_false_iff, Bool.or_eq_false_iff, Bool.not_eq_true', Bool.not_eq_false', Int.not_lt, Int.not_le] at hc2
              refine WC.region ?_
              refine WL.op rfl (opW.moveI rfl ?_)
              refine WL.op rfl (opW.moveI rfl ?_)
              refine WL.op rfl (opW.sub rfl rfl (show IntKind.i64.wrap _ = ((j - 64 : Nat) : Int) from (wrap_i64 (by omega)).trans (by omega)) ?_)
              refine WL.op rfl (opW.conv rfl (wrap_u64 (by omega)) ?_)
              refine WL.op rfl (opW.shr rfl rfl (by omega) (nshr (k := j - 64) (by omega)) ?_)
              refine WL.op rfl (opW.and rfl rfl (nand1 hs2) ?_)
              refine WL.op rfl (opW.assignI rfl ?_)
              refine WL.nil ?_
              refine thenQ_n ?_
              first | exact ⟨⟨rfl, rfl, rfl, rfl, rfl, rfl, rfl, congrArg (fun i : Nat => Value.int .u64 (i : Int)) (by rw [hbit, bith (P := a * b) (j := j) (by omega)]), trivial⟩, hS⟩ | exact ⟨⟨rfl, rfl, rfl, rfl, rfl, rfl, rfl, congrArg (fun i : Nat => Value.int .u64 (i : Int)) (by rw [hbit, bitl (P := a * b) (j := j) (by omega), Nat.min_eq_left (by omega)]), trivial⟩, hS⟩
            ·
              have hr2 := hc2
              try simp only [decide_eq_true_eq, decide_eq_false_iff_not, Bool.and_eq_true, Bool.or_eq_true, Bool.and_eq_false_iff, Bool.or_eq_false_iff, Bool.not_eq_true', Bool.not_eq_false', Int.not_lt, Int.not_le] at hc2
              refine WC.skip ?_
              refine thenQ_n ?_
              first | exact ⟨⟨rfl, rfl, rfl, rfl, rfl, rfl, rfl, congrArg (fun i : Nat => Value.int .u64 (i : Int)) (by rw [hbit, bith (P := a * b) (j := j) (by omega)]), trivial⟩, hS⟩ | exact ⟨⟨rfl, rfl, rfl, rfl, rfl, rfl, rfl, congrArg (fun i : Nat => Value.int .u64 (i : Int)) (by rw [hbit, bitl (P := a * b) (j := j) (by omega), Nat.min_eq_left (by omega)]), trivial⟩, hS⟩
          ·
            rintro f w ⟨hfit, hS⟩
            refine WC.fits _ hfit (fun g => ?_)
            clear hfit
            refine WC.seq (fun K14 hK14 => ?_)
            refine WC.region ?_
            refine WL.op rfl (opW.moveI rfl ?_)
            refine WL.op rfl (opW.geq rfl rfl ?_)
            refine WL.op rfl (opW.assignB rfl ?_)
            refine WL.nil ?_
            refine thenQ_n (hK14 _ _ ?_)
            refine WC.seq (fun K15 hK15 => ?_)
            refine WC.region ?_
            refine WL.op rfl (opW.moveI rfl ?_)
            refine WL.op rfl (opW.mul rfl rfl (nmulM 2 r) ?_)
            refine WL.op rfl (opW.moveI rfl ?_)
            refine WL.op rfl (opW.add rfl rfl ((nadd (by omega)).trans (ncast (b := (2 * r + bit) % 18446744073709551616) (by omega))) ?_)
            refine WL.op rfl (opW.assignI rfl ?_)
            refine WL.nil ?_
            refine thenQ_n (hK15 _ _ ?_)
            refine WC.seq (fun K16 hK16 => ?_)
            refine WC.region ?_
            refine WL.op rfl (opW.moveB rfl ?_)
            refine WL.op rfl (opW.moveB rfl ?_)
            refine WL.gd _ 49 _ rfl rfl rfl rfl (fun hg50 => opW.moveI rfl ⟨rfl, Bel.refl _⟩) (fun w hw => ?_)
            replace hS := hS.bel hw
            refine WL.gd _ 49 _ rfl rfl rfl rfl (fun hg51 => opW.moveI rfl ⟨rfl, Bel.refl _⟩) (fun w hw => ?_)
            replace hS := hS.bel hw
            refine WL.gd _ 49 _ rfl rfl rfl rfl (fun hg52 => opW.geq (by first | exact gv_of rfl hg52 | rfl) (by first | exact gv_of rfl hg52 | rfl) ⟨rfl, Bel.refl _⟩) (fun w hw => ?_)
            replace hS := hS.bel hw
            refine WL.op rfl (opW.pickOr rfl rfl (by first | rfl) ?_)
            refine WL.op rfl (opW.assignB rfl ?_)
            refine WL.nil ?_
            refine thenQ_n (hK16 _ _ ?_)
            refine WC.mid (fun f w => ∃ (r2 : Nat) (tk : Bool), Fits [(2, .int .u64 ((d : Nat) : Int)), (3, .bool up), (9, .int .u64 ((a * b / 18446744073709551616 : Nat) : Int)), (10, .int .u64 ((a * b % 18446744073709551616 : Nat) : Int)), (11, .int .u64 ((r2 : Nat) : Int)), (12, .int .u64 ((n : Nat) : Int)), (13, .int .i64 (j : Int)), (16, .bool tk)] f ∧ St w0 [] w ∧ r2 < d ∧ (if tk = true then 2 * n + 1 else 2 * n) * d + r2 = a * b / 2 ^ j) ?_ ?_
            ·
              refine WC.seq (fun K17 hK17 => ?_)
              refine WC.region ?_
              refine WL.op rfl (opW.moveB rfl ?_)
              refine WL.nil ?_
              refine thenQ_n (hK17 _ _ ?_)
              refine WC.cond _ rfl (fun hc3 => ?_) (fun hc3 => ?_)
              ·
                have hr3 := hc3
                try simp only [decide_eq_true_eq, decide_eq_false_iff_not, Bool.and_eq_true, Bool.or_eq_true, Bool.and_eq_false_iff, Bool.or_eq_false_iff, Bool.not_eq_true', Bool.not_eq_false', Int.not_lt, Int.not_le] at hc3
                have htk : d ≤ 2 * r + bit := by
                  simp only [Bool.or_eq_true, decide_eq_true_eq] at hr3
                  omega
                have hl2 := long_take hl htk
                refine WC.region ?_
                refine WL.op rfl (opW.moveI rfl ?_)
                refine WL.op rfl (opW.moveI rfl ?_)
                refine WL.op rfl (opW.sub rfl rfl (nsubM _ _ (by omega)) ?_)
                refine WL.op rfl (opW.assignI rfl ?_)
                refine WL.nil ?_
                refine thenQ_n ?_
                first | exact ⟨2 * r + bit - d, true, ⟨rfl, rfl, rfl, rfl, congrArg (fun i : Nat => Value.int .u64 (i : Int)) (by omega), rfl, rfl, congrArg Value.bool hr3, trivial⟩, hS, by omega, (by rw [if_pos rfl]; exact hl2)⟩ | exact ⟨2 * r + bit, false, ⟨rfl, rfl, rfl, rfl, congrArg (fun i : Nat => Value.int .u64 (i : Int)) (by omega), rfl, rfl, congrArg Value.bool hr3, trivial⟩, hS, by omega, (by rw [if_neg (by decide)]; exact hl)⟩
              ·
                have hr3 := hc3
                try simp only [decide_eq_true_eq, decide_eq_false_iff_not, Bool.and_eq_true, Bool.or_eq_true, Bool.and_eq_false_iff, Bool.or_eq_false_iff, Bool.not_eq_true', Bool.not_eq_false', Int.not_lt, Int.not_le] at hc3
                have htk : ¬ d ≤ 2 * r + bit := by
                  simp only [Bool.or_eq_false_iff, decide_eq_false_iff_not] at hr3
                  omega
                refine WC.skip ?_
                refine thenQ_n ?_
                first | exact ⟨2 * r + bit - d, true, ⟨rfl, rfl, rfl, rfl, congrArg (fun i : Nat => Value.int .u64 (i : Int)) (by omega), rfl, rfl, congrArg Value.bool hr3, trivial⟩, hS, by omega, (by rw [if_pos rfl]; exact hl2)⟩ | exact ⟨2 * r + bit, false, ⟨rfl, rfl, rfl, rfl, congrArg (fun i : Nat => Value.int .u64 (i : Int)) (by omega), rfl, rfl, congrArg Value.bool hr3, trivial⟩, hS, by omega, (by rw [if_neg (by decide)]; exact hl)⟩
            ·
              rintro f w ⟨r2, tk, hfit, hS, hr2, h2⟩
              refine WC.fits _ hfit (fun g => ?_)
              clear hfit
              refine WC.seq (fun K18 hK18 => ?_)
              refine WC.seq (fun K19 hK19 => ?_)
              refine WC.region ?_
              refine WL.op rfl (opW.moveI rfl ?_)
              refine WL.op rfl (opW.geq rfl rfl ?_)
              refine WL.nil ?_
              refine thenQ_n (hK19 _ _ ?_)
              refine WC.cond _ rfl (fun hc4 => ?_) (fun hc4 => ?_)
              ·
                have hr4 := hc4
                try simp only [decide_eq_true_eq, decide_eq_false_iff_not, Bool.and_eq_true, Bool.or_eq_true, Bool.and_eq_false_iff, Bool.or_eq_false_iff, Bool.not_eq_true', Bool.not_eq_false', Int.not_lt, Int.not_le] at hc4
                refine WC.seq (fun K20 hK20 => ?_)
                refine WC.region ?_
                refine WL.op rfl (opW.assignI rfl ?_)
                refine WL.nil ?_
                refine thenQ_n (hK20 _ _ ?_)
                refine WC.ret ?_
                refine thenQ_r ?_
                refine blockQ_r ?_
                refine thenQ_r ?_
                refine thenQ_r ?_
                refine blockQ_r ?_
                refine thenQ_r ?_
                refine bodyQ_ret (.tmpI rfl .nil) ?_
                refine ⟨?_, hS.old⟩
                unfold tmF
                rw [if_pos (long_over hdr (by omega))]
                rfl
              ·
                have hr4 := hc4
                try simp only [decide_eq_true_eq, decide_eq_false_iff_not, Bool.and_eq_true, Bool.or_eq_true, Bool.and_eq_false_iff, Bool.or_eq_false_iff, Bool.not_eq_true', Bool.not_eq_false', Int.not_lt, Int.not_le] at hc4
                refine WC.skip ?_
                refine thenQ_n (hK18 _ _ ?_)
                refine WC.seq (fun K21 hK21 => ?_)
                refine WC.region ?_
                refine WL.op rfl (opW.moveI rfl ?_)
                refine WL.op rfl (opW.mul rfl rfl (nmul (a := 2) (by omega)) ?_)
                refine WL.op rfl (opW.assignI rfl ?_)
                refine WL.nil ?_
                refine thenQ_n (hK21 _ _ ?_)
                refine WC.seq (fun K22 hK22 => ?_)
                refine WC.region ?_
                refine WL.op rfl (opW.moveB rfl ?_)
                refine WL.nil ?_
                refine thenQ_n (hK22 _ _ ?_)
                refine WC.cond _ rfl (fun hc5 => ?_) (fun hc5 => ?_)
                ·
                  have hr5 := hc5
                  try simp only [decide_eq_true_eq, decide_eq_false_iff_not, Bool.and_eq_true, Bool.or_eq_true, Bool.and_eq_false_iff, Bool.or_eq_false_iff, Bool.not_eq_true', Bool.not_eq_false', Int.not_lt, Int.not_le] at hc5
                  refine WC.region ?_
                  refine WL.op rfl (opW.moveI rfl ?_)
                  refine WL.op rfl (opW.add rfl rfl (nadd (b := 1) (by omega)) ?_)
                  refine WL.op rfl (opW.assignI rfl ?_)
                  refine WL.nil ?_
                  refine blockQ_n ?_
                  refine thenQ_n ?_
                  first | exact ⟨2 * n + 1, r2, ⟨rfl, rfl, rfl, rfl, rfl, rfl, rfl, trivial⟩, hS, (by rw [show tk = true from hr5, if_pos rfl] at h2; exact h2), hr2, by omega⟩ | exact ⟨2 * n, r2, ⟨rfl, rfl, rfl, rfl, rfl, rfl, rfl, trivial⟩, hS, (by rw [show tk = false from hr5, if_neg (by decide)] at h2; exact h2), hr2, by omega⟩
                ·
                  have hr5 := hc5
                  try simp only [decide_eq_true_eq, decide_eq_false_iff_not, Bool.and_eq_true, Bool.or_eq_true, Bool.and_eq_false_iff, Bool.or_eq_false_iff, Bool.not_eq_true', Bool.not_eq_false', Int.not_lt, Int.not_le] at hc5
                  refine WC.skip ?_
                  refine blockQ_n ?_
                  refine thenQ_n ?_
                  first | exact ⟨2 * n + 1, r2, ⟨rfl, rfl, rfl, rfl, rfl, rfl, rfl, trivial⟩, hS, (by rw [show tk = true from hr5, if_pos rfl] at h2; exact h2), hr2, by omega⟩ | exact ⟨2 * n, r2, ⟨rfl, rfl, rfl, rfl, rfl, rfl, rfl, trivial⟩, hS, (by rw [show tk = false from hr5, if_neg (by decide)] at h2; exact h2), hr2, by omega⟩
        ·
          rintro f w ⟨n2, r2, hfit, hS, h2, hr2, hn2⟩
          refine WC.fits _ hfit (fun g => ?_)
          clear hfit
          refine WC.region ?_
          refine WL.op rfl (opW.moveI rfl ?_)
          refine WL.op rfl (opW.sub rfl rfl (wrap_i64 (by omega)) ?_)
          refine WL.op rfl (opW.assignI rfl ?_)
          refine WL.nil ?_
          refine thenQ_n ?_
          exact ⟨j, by omega, j, n2, r2, (j : Int) - 1, ⟨rfl, rfl, rfl, rfl, rfl, rfl, rfl, trivial⟩, hS, h2, hr2, hn2, rfl, by omega, rfl⟩
      ·
        have hr1 := hc1
        try simp only [decide_eq_true_eq, decide_eq_false_iff_not, Bool.and_eq_true, Bool.or_eq_true, Bool.and_eq_false_iff, Bool.or_eq_false_iff, Bool.not_eq_true', Bool.not_eq_false', Int.not_lt, Int.not_le] at hc1
        obtain rfl : m = 0 := by omega
        obtain ⟨e1, e2, e3⟩ := long_end hdr hrd hnM
        have he := tm_end (up := up) e1 e2 e3 hnM
        refine WC.exit ?_
        refine thenQ_e ?_
        refine thenQ_e ?_
        refine blockQ_hit ?_
        refine thenQ_n (hK8 _ _ ?_)
        refine WC.mid (fun f w =>  Fits [(12, .int .u64 ((tmF a b d up : Nat) : Int))] f ∧ St w0 [] w) ?_ ?_
        ·
          refine WC.seq (fun K23 hK23 => ?_)
          refine WC.region ?_
          refine WL.op rfl (opW.moveB rfl ?_)
          refine WL.op rfl (opW.moveB rfl ?_)
          refine WL.gd _ 66 _ rfl rfl rfl rfl (fun hg67 => opW.moveI rfl ⟨rfl, Bel.refl _⟩) (fun w hw => ?_)
          replace hS := hS.bel hw
          refine WL.gd _ 66 _ rfl rfl rfl rfl (fun hg68 => opW.gtr (by first | exact gv_of rfl hg68 | rfl) rfl ⟨rfl, Bel.refl _⟩) (fun w hw => ?_)
          replace hS := hS.bel hw
          refine WL.op rfl (opW.pickAnd rfl (by first | rfl) rfl ?_)
          refine WL.op rfl (opW.moveB rfl ?_)
          refine WL.gd _ 70 _ rfl rfl rfl rfl (fun hg71 => opW.moveI rfl ⟨rfl, Bel.refl _⟩) (fun w hw => ?_)
          replace hS := hS.bel hw
          refine WL.gd _ 70 _ rfl rfl rfl rfl (fun hg72 => opW.lss (by first | exact gv_of rfl hg72 | rfl) rfl ⟨rfl, Bel.refl _⟩) (fun w hw => ?_)
          replace hS := hS.bel hw
          refine WL.op rfl (opW.pickAnd rfl (by first | rfl) rfl ?_)
          refine WL.nil ?_
          refine thenQ_n (hK23 _ _ ?_)
          refine WC.cond _ rfl (fun hc6 => ?_) (fun hc6 => ?_)
          ·
            have hr6 := hc6
            try simp only [decide_eq_true_eq, decide_eq_false_iff_not, Bool.and_eq_true, Bool.or_eq_true, Bool.and_eq_false_iff, Bool.or_eq_false_iff, Bool.not_eq_true', Bool.not_eq_false', Int.not_lt, Int.not_le] at hc6
            have hx : up = true ∧ 0 < r ∧ n < 18446744073709551615 := by
              simp only [Bool.and_eq_true, decide_eq_true_eq] at hr6
              exact ⟨hr6.1.1, by omega, by omega⟩
            rw [if_pos hx] at he
            refine WC.region ?_
            refine WL.op rfl (opW.moveI rfl ?_)
            refine WL.op rfl (opW.add rfl rfl (nadd (b := 1) (by omega)) ?_)
            refine WL.op rfl (opW.assignI rfl ?_)
            refine WL.nil ?_
            refine thenQ_n ?_
            exact ⟨⟨congrArg (fun i : Nat => Value.int .u64 (i : Int)) (he.symm), trivial⟩, hS⟩
          ·
            have hr6 := hc6
            try simp only [decide_eq_true_eq, decide_eq_false_iff_not, Bool.and_eq_true, Bool.or_eq_true, Bool.and_eq_false_iff, Bool.or_eq_false_iff, Bool.not_eq_true', Bool.not_eq_false', Int.not_lt, Int.not_le] at hc6
            have hx : ¬ (up = true ∧ 0 < r ∧ n < 18446744073709551615) := by
              rintro ⟨h1, h2, h3⟩
              rw [h1, decide_eq_true (show (0 : Int) < (r : Int) by omega), decide_eq_true (show (n : Int) < 18446744073709551615 by omega)] at hr6
              exact absurd hr6 (by decide)
            rw [if_neg hx] at he
            refine WC.skip ?_
            refine thenQ_n ?_
            exact ⟨⟨congrArg (fun i : Nat => Value.int .u64 (i : Int)) (he.symm), trivial⟩, hS⟩
        ·
          rintro f w ⟨hfit, hS⟩
          refine WC.fits _ hfit (fun g => ?_)
          clear hfit
          refine WC.seq (fun K24 hK24 => ?_)
          refine WC.region ?_
          refine WL.op rfl (opW.moveI rfl ?_)
          refine WL.op rfl (opW.assignI rfl ?_)
          refine WL.nil ?_
          refine thenQ_n (hK24 _ _ ?_)
          refine WC.ret ?_
          refine bodyQ_ret (.tmpI rfl .nil) ?_
          exact ⟨rfl, hS.old⟩

theorem refsum_ok (w0 : World) (v : Value) (xs : List U64) (hx : SlR w0 v xs) (hb : Okl xs) : Ret Try.prog 13 #[v] w0 (fun u w' => u = .int .u64 ((sumL xs : Nat) : Int) ∧ Bel w0 w') := by
  refine Ret.enter (args := [v]) Try.func13 rfl Try.ntmps13 Try.results13 rfl ?_
  have hS := St.start w0
  refine WC.seq (fun K1 hK1 => ?_)
  refine WC.region ?_
  refine WL.op rfl (opW.assignI rfl ?_)
  refine WL.nil ?_
  refine thenQ_n (hK1 _ _ ?_)
  refine WC.seq (fun K2 hK2 => ?_)
  refine WC.region ?_
  refine WL.op rfl (opW.assignI rfl ?_)
  refine WL.nil ?_
  refine thenQ_n (hK2 _ _ ?_)
  refine WC.seq (fun K3 hK3 => ?_)
  refine WC.seq (fun K4 hK4 => ?_)
  refine WC.region ?_
  refine WL.op rfl (opW.assignI rfl ?_)
  refine WL.nil ?_
  refine thenQ_n (hK4 _ _ ?_)
  refine WC.block ?_
  refine WC.loop (fun q f w => ∃ k : Nat, Fits [(0, v), (3, .int .u64 ((sumL (xs.take k) : Nat) : Int)), (4, .int .i64 (k : Int))] f ∧ St w0 [] w ∧ k ≤ xs.length ∧ q = xs.length - k) (xs.length) ?_ ?_
  ·
    exact ⟨0, ⟨rfl, rfl, rfl, trivial⟩, hS, Nat.zero_le _, rfl⟩
  ·
    rintro q f w ⟨k, hfit, hS, hk0, hm⟩
    refine WC.fits _ hfit (fun g => ?_)
    clear hfit
    refine WC.seq (fun K5 hK5 => ?_)
    refine WC.seq (fun K6 hK6 => ?_)
    refine WC.region ?_
    refine WL.op rfl (opW.moveI rfl ?_)
    refine WL.op rfl (opW.moveV (v := v) rfl ?_)
    refine WL.op rfl (opW.lenV rfl ((hx.bel hS.old)) ?_)
    refine WL.op rfl (opW.lss rfl rfl ?_)
    refine WL.nil ?_
    refine thenQ_n (hK6 _ _ ?_)
    refine WC.cond _ rfl (fun hc0 => ?_) (fun hc0 => ?_)
    ·
      have hr0 := hc0
      try simp only [decide_eq_true_eq, decide_eq_false_iff_not, Bool.and_eq_true, Bool.or_eq_true, Bool.and_eq_false_iff, Bool.or_eq_false_iff, Bool.not_eq_true', Bool.not_eq_false', Int.not_lt, Int.not_le] at hc0
      have hkl : k < xs.length := by omega
      have hle := hx.le
      simp only [maxLen] at hle
      have hsl := sumL_lt (xs.take k)
      have hbk := hb _ (List.getElem_mem hkl)
      refine WC.skip ?_
      refine thenQ_n (hK5 _ _ ?_)
      refine WC.seq (fun K7 hK7 => ?_)
      refine WC.block ?_
      refine WC.seq (fun K8 hK8 => ?_)
      refine WC.seq (fun K9 hK9 => ?_)
      refine WC.region ?_
      refine WL.op rfl (opW.moveV (v := v) rfl ?_)
      refine WL.op rfl (opW.moveI rfl ?_)
      refine WL.op rfl (opW.idxV rfl ((hx.bel hS.old)) rfl (by omega) ?_)
      refine WL.op rfl (opW.loadV rfl (((hx.bel hS.old).isPt hkl).ld rfl) ?_)
      refine WL.op rfl (opW.moveI rfl ?_)
      refine WL.op rfl (opW.sub rfl rfl (nsub (a := 18446744073709551615) (by omega) (by decide)) ?_)
      refine WL.op rfl (opW.gtr rfl rfl ?_)
      refine WL.nil ?_
      refine thenQ_n (hK9 _ _ ?_)
      refine WC.cond _ rfl (fun hc1 => ?_) (fun hc1 => ?_)
      ·
        have hr1 := hc1
        try simp only [decide_eq_true_eq, decide_eq_false_iff_not, Bool.and_eq_true, Bool.or_eq_true, Bool.and_eq_false_iff, Bool.or_eq_false_iff, Bool.not_eq_true', Bool.not_eq_false', Int.not_lt, Int.not_le] at hc1
        refine WC.seq (fun K10 hK10 => ?_)
        refine WC.region ?_
        refine WL.op rfl (opW.assignI rfl ?_)
        refine WL.nil ?_
        refine thenQ_n (hK10 _ _ ?_)
        refine WC.ret ?_
        refine thenQ_r ?_
        refine blockQ_r ?_
        refine thenQ_r ?_
        refine thenQ_r ?_
        refine blockQ_r ?_
        refine thenQ_r ?_
        refine bodyQ_ret (.tmpI rfl .nil) ?_
        refine ⟨?_, hS.old⟩
        rw [sum_over hkl (by omega)]
        rfl
      ·
        have hr1 := hc1
        try simp only [decide_eq_true_eq, decide_eq_false_iff_not, Bool.and_eq_true, Bool.or_eq_true, Bool.and_eq_false_iff, Bool.or_eq_false_iff, Bool.not_eq_true', Bool.not_eq_false', Int.not_lt, Int.not_le] at hc1
        refine WC.skip ?_
        refine thenQ_n (hK8 _ _ ?_)
        refine WC.region ?_
        refine WL.op rfl (opW.moveI rfl ?_)
        refine WL.op rfl (opW.moveV (v := v) rfl ?_)
        refine WL.op rfl (opW.moveI rfl ?_)
        refine WL.op rfl (opW.idxV rfl ((hx.bel hS.old)) rfl (by omega) ?_)
        refine WL.op rfl (opW.loadV rfl (((hx.bel hS.old).isPt hkl).ld rfl) ?_)
        refine WL.op rfl (opW.add rfl rfl (nadd (by omega)) ?_)
        refine WL.op rfl (opW.assignI rfl ?_)
        refine WL.nil ?_
        refine blockQ_n ?_
        refine thenQ_n (hK7 _ _ ?_)
        refine WC.region ?_
        refine WL.op rfl (opW.moveI rfl ?_)
        refine WL.op rfl (opW.add rfl rfl (wrap_i64 (by omega)) ?_)
        refine WL.op rfl (opW.assignI rfl ?_)
        refine WL.nil ?_
        refine thenQ_n ?_
        exact ⟨xs.length - (k + 1), by omega, k + 1, ⟨rfl, congrArg (fun i : Nat => Value.int .u64 (i : Int)) (sum_under hkl (by omega)), congrArg (Value.int .i64) (by omega), trivial⟩, hS, by omega, rfl⟩
    ·
      have hr0 := hc0
      try simp only [decide_eq_true_eq, decide_eq_false_iff_not, Bool.and_eq_true, Bool.or_eq_true, Bool.and_eq_false_iff, Bool.or_eq_false_iff, Bool.not_eq_true', Bool.not_eq_false', Int.not_lt, Int.not_le] at hc0
      refine WC.exit ?_
      refine thenQ_e ?_
      refine thenQ_e ?_
      refine blockQ_hit ?_
      refine thenQ_n (hK3 _ _ ?_)
      refine WC.seq (fun K11 hK11 => ?_)
      refine WC.region ?_
      refine WL.op rfl (opW.moveI rfl ?_)
      refine WL.op rfl (opW.assignI rfl ?_)
      refine WL.nil ?_
      refine thenQ_n (hK11 _ _ ?_)
      refine WC.ret ?_
      refine bodyQ_ret (.tmpI rfl .nil) ?_
      have hkk : k = xs.length := by omega
      rw [hkk, List.take_length]
      exact ⟨rfl, hS.old⟩

end Go.Fer
