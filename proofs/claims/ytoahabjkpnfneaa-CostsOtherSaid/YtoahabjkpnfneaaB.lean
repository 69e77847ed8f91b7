/- wides -/
import Derived.Test.YtoahabjkpnfneaaA
set_option linter.all false
namespace Go.Fer
open Go Go.Proofs Go.RowKit

theorem dm (a b : Nat) : a * b / 18446744073709551616 * 18446744073709551616 + a * b % 18446744073709551616 = a * b := Nat.div_add_mod' _ _
/-- a product divided, up or down, held -/
def tmF (a b d : Nat) (up : Bool) : Nat := if d ≤ a * b / 18446744073709551616 then 18446744073709551615 else if (up && decide (0 < a * b % d)) = true then sumH (a * b / d) 1 else a * b / d
def sumL (l : List U64) : Nat := l.foldl (fun a x => sumH a x.n) 0
theorem sumL_step {l : List U64} {k : Nat} (hk : k < l.length) : sumL (l.take (k + 1)) = sumH (sumL (l.take k)) l[k].n := by
  unfold sumL; rw [List.take_succ_eq_append_getElem hk, List.foldl_append]; rfl
theorem sumL_lt (l : List U64) : sumL l < 18446744073709551616 := by
  have h : ∀ (l : List U64) (a : Nat), a < 18446744073709551616 → l.foldl (fun a x => sumH a x.n) a < 18446744073709551616 := by
    intro l
    induction l with
    | nil => intro a h; exact h
    | cons x r ih => intro a h; exact ih _ (sumH_lt _ _)
  exact h l 0 (by decide)
def Okl (l : List U64) : Prop := ∀ x ∈ l, x.n < 18446744073709551616
theorem okl2 {a b : Nat} (h : a < 18446744073709551616) (h2 : b < 18446744073709551616) : Okl [⟨a⟩, ⟨b⟩] := by
  intro x hx
  simp at hx
  rcases hx with rfl | rfl
  · exact h
  · exact h2
theorem okl_append {l m : List U64} (h : Okl l) (h2 : Okl m) : Okl (l ++ m) := by
  intro x hx
  rcases List.mem_append.1 hx with hx | hx
  · exact h x hx
  · exact h2 x hx
theorem mulHi_lt {a b : Nat} (ha : a < 18446744073709551616) (hb : b < 18446744073709551616) : a * b / 18446744073709551616 < 18446744073709551616 := by
  rw [Nat.div_lt_iff_lt_mul (by decide)]
  have := Nat.mul_le_mul (show a ≤ 18446744073709551615 by omega) (show b ≤ 18446744073709551615 by omega)
  omega
theorem quoLt {a b d : Nat} (h : ¬ d ≤ a * b / 18446744073709551616) : a * b / d < 18446744073709551616 := by
  rw [Nat.div_lt_iff_lt_mul (by omega)]
  have h1 := Nat.div_add_mod' (a * b) 18446744073709551616
  have h2 := Nat.mod_lt (a * b) (show 0 < 18446744073709551616 by decide)
  rw [Nat.mul_comm 18446744073709551616]
  have h3 : (a * b / 18446744073709551616 + 1) * 18446744073709551616 ≤ d * 18446744073709551616 := Nat.mul_le_mul_right _ (by omega)
  omega

theorem wmul_ok (w0 : World) (x y : Nat) (hx : x < 18446744073709551616) (hy : y < 18446744073709551616) : Ret Try.prog 20 #[.int .u64 ((x : Nat) : Int), .int .u64 ((y : Nat) : Int)] w0 (fun u w' => u = .tuple #[.int .u64 ((x * y / 18446744073709551616 : Nat) : Int), .int .u64 ((x * y % 18446744073709551616 : Nat) : Int)] ∧ Bel w0 w') := by
  refine Ret.enter (args := [.int .u64 ((x : Nat) : Int), .int .u64 ((y : Nat) : Int)]) Try.func20 rfl Try.ntmps20 Try.results20 rfl ?_
  have hS := St.start w0
  refine WC.seq (fun K1 hK1 => ?_)
  refine WC.region ?_
  refine WL.op rfl (opW.assignI rfl ?_)
  refine WL.op rfl (opW.assignI rfl ?_)
  refine WL.nil ?_
  refine thenQ_n (hK1 _ _ ?_)
  refine WC.seq (fun K2 hK2 => ?_)
  refine WC.region ?_
  refine WL.op rfl (opW.moveI rfl ?_)
  refine WL.op rfl (opW.moveI rfl ?_)
  refine WL.op rfl (opW.call (mul64_ok _ x y hx hy) rfl ?_)
  rintro _ w ⟨rfl, hw⟩; replace hS := hS.bel hw
  refine WL.op rfl (opW.extract rfl rfl ?_)
  refine WL.op rfl (opW.extract rfl rfl ?_)
  refine WL.op rfl (opW.assignI rfl ?_)
  refine WL.op rfl (opW.assignI rfl ?_)
  refine WL.nil ?_
  refine thenQ_n (hK2 _ _ ?_)
  refine WC.ret ?_
  refine bodyQ_ret (.tmpI rfl (.tmpI rfl .nil)) ?_
  exact ⟨rfl, hS.old⟩

theorem sum1_ok (wb w0 : World) (S : List Ent) (p a n : Nat) (ha : a < 18446744073709551616) (hn : n < 18446744073709551616) (hS0 : St wb (blkE p #[.int .u64 ((a : Nat) : Int)] 34 :: S) w0) : Ret Try.prog 17 #[.int .u64 ((n : Nat) : Int), .pointer (some ⟨p, 0, none⟩)] w0 (fun u w' => St wb (blkE p #[.int .u64 ((sumH a n : Nat) : Int)] 34 :: S) w') := by
  refine Ret.enter (args := [.int .u64 ((n : Nat) : Int), .pointer (some ⟨p, 0, none⟩)]) Try.func17 rfl Try.ntmps17 Try.results17 rfl ?_
  have hS := St.start w0
  replace hS := hS0
  refine WC.seq (fun K1 hK1 => ?_)
  refine WC.region ?_
  refine WL.op rfl (opW.loadV rfl (hS.ld1 (by first | exact .here | exact .there (.here) | exact .there (.there (.here)) | exact .there (.there (.there (.here))) | exact .there (.there (.there (.there (.here)))) | exact .there (.there (.there (.there (.there (.here))))) | exact .there (.there (.there (.there (.there (.there (.here)))))) | exact .there (.there (.there (.there (.there (.there (.there (.here))))))) | exact .there (.there (.there (.there (.there (.there (.there (.there (.here)))))))) | exact .there (.there (.there (.there (.there (.there (.there (.there (.there (.here))))))))) | exact .there (.there (.there (.there (.there (.there (.there (.there (.there (.there (.here)))))))))) | exact .there (.there (.there (.there (.there (.there (.there (.there (.there (.there (.there (.here))))))))))) | exact .there (.there (.there (.there (.there (.there (.there (.there (.there (.there (.there (.there (.here))))))))))))) rfl) ?_)
  refine WL.op rfl (opW.moveI rfl ?_)
  refine WL.op rfl (opW.callX (run_add64' Try.func18 (by kernel_rfl) (by kernel_rfl) (by kernel_rfl) (by kernel_rfl) a n _) rfl ?_)
  refine WL.op rfl (opW.moveV (v := .tuple #[.int .u64 (((a + n) % 18446744073709551616 : Nat) : Int), .int .u64 (((a + n) / 18446744073709551616 : Nat) : Int)]) rfl ?_)
  refine WL.op rfl (opW.extract rfl rfl ?_)
  refine WL.op rfl (opW.extract rfl rfl ?_)
  refine WL.op rfl (opW.assignI rfl ?_)
  refine WL.op rfl (opW.assignI rfl ?_)
  refine WL.nil ?_
  refine thenQ_n (hK1 _ _ ?_)
  refine WC.region ?_
  refine WL.op rfl (opW.moveI rfl ?_)
  refine WL.op rfl (opW.moveI rfl ?_)
  refine WL.op rfl (opW.neg rfl rfl ?_)
  refine WL.op rfl (opW.or rfl rfl (sumH_or a n ha hn) ?_)
  refine WL.op0 (opW.storeAll (b := p) (c := #[.int .u64 ((sumH a n : Nat) : Int)]) (cs := #[.int .u64 ((a : Nat) : Int)]) hS rfl rfl (by first | exact .here | exact .there (.here) | exact .there (.there (.here)) | exact .there (.there (.there (.here))) | exact .there (.there (.there (.there (.here)))) | exact .there (.there (.there (.there (.there (.here))))) | exact .there (.there (.there (.there (.there (.there (.here)))))) | exact .there (.there (.there (.there (.there (.there (.there (.here))))))) | exact .there (.there (.there (.there (.there (.there (.there (.there (.here)))))))) | exact .there (.there (.there (.there (.there (.there (.there (.there (.there (.here))))))))) | exact .there (.there (.there (.there (.there (.there (.there (.there (.there (.there (.here)))))))))) | exact .there (.there (.there (.there (.there (.there (.there (.there (.there (.there (.there (.here))))))))))) | exact .there (.there (.there (.there (.there (.there (.there (.there (.there (.there (.there (.there (.here))))))))))))) rfl rfl (one_int _ _) ?_)
  intro w hS; replace hS := hS _ (by first | exact .here | exact .there (.here) | exact .there (.there (.here)) | exact .there (.there (.there (.here))) | exact .there (.there (.there (.there (.here)))) | exact .there (.there (.there (.there (.there (.here))))) | exact .there (.there (.there (.there (.there (.there (.here)))))) | exact .there (.there (.there (.there (.there (.there (.there (.here))))))) | exact .there (.there (.there (.there (.there (.there (.there (.there (.here)))))))) | exact .there (.there (.there (.there (.there (.there (.there (.there (.there (.here))))))))) | exact .there (.there (.there (.there (.there (.there (.there (.there (.there (.there (.here)))))))))) | exact .there (.there (.there (.there (.there (.there (.there (.there (.there (.there (.there (.here))))))))))) | exact .there (.there (.there (.there (.there (.there (.there (.there (.there (.there (.there (.there (.here)))))))))))))
  refine WL.nil ?_
  refine bodyQ_end .nil ?_
  exact hS

theorem wsum_ok (w0 : World) (v : Value) (xs : List U64) (hx : SlR w0 v xs) (hb : Okl xs) : Ret Try.prog 12 #[v] w0 (fun u w' => u = .int .u64 ((sumL xs : Nat) : Int) ∧ Bel w0 w') := by
  refine Ret.enter (args := [v]) Try.func12 rfl Try.ntmps12 Try.results12 rfl ?_
  have hS := St.start w0
  refine WC.seq (fun K1 hK1 => ?_)
  refine WC.region ?_
  refine WL.op rfl (opW.assignI rfl ?_)
  refine WL.nil ?_
  refine thenQ_n (hK1 _ _ ?_)
  refine WC.seq (fun K2 hK2 => ?_)
  refine WC.region ?_
  refine WL.op rfl (opW.alloc1 hS rfl ?_)
  intro b3 w _ hS
  refine WL.op0 (opW.storeAll (b := b3) (c := #[.int .u64 0]) (cs := #[.int .u64 0]) hS rfl rfl (by first | exact .here | exact .there (.here) | exact .there (.there (.here)) | exact .there (.there (.there (.here))) | exact .there (.there (.there (.there (.here)))) | exact .there (.there (.there (.there (.there (.here))))) | exact .there (.there (.there (.there (.there (.there (.here)))))) | exact .there (.there (.there (.there (.there (.there (.there (.here))))))) | exact .there (.there (.there (.there (.there (.there (.there (.there (.here)))))))) | exact .there (.there (.there (.there (.there (.there (.there (.there (.there (.here))))))))) | exact .there (.there (.there (.there (.there (.there (.there (.there (.there (.there (.here)))))))))) | exact .there (.there (.there (.there (.there (.there (.there (.there (.there (.there (.there (.here))))))))))) | exact .there (.there (.there (.there (.there (.there (.there (.there (.there (.there (.there (.there (.here))))))))))))) rfl rfl (one_int _ _) ?_)
  intro w hS; replace hS := hS _ (by first | exact .here | exact .there (.here) | exact .there (.there (.here)) | exact .there (.there (.there (.here))) | exact .there (.there (.there (.there (.here)))) | exact .there (.there (.there (.there (.there (.here))))) | exact .there (.there (.there (.there (.there (.there (.here)))))) | exact .there (.there (.there (.there (.there (.there (.there (.here))))))) | exact .there (.there (.there (.there (.there (.there (.there (.there (.here)))))))) | exact .there (.there (.there (.there (.there (.there (.there (.there (.there (.here))))))))) | exact .there (.there (.there (.there (.there (.there (.there (.there (.there (.there (.here)))))))))) | exact .there (.there (.there (.there (.there (.there (.there (.there (.there (.there (.there (.here))))))))))) | exact .there (.there (.there (.there (.there (.there (.there (.there (.there (.there (.there (.there (.here)))))))))))))
  refine WL.nil ?_
  refine thenQ_n (hK2 _ _ ?_)
  refine WC.seq (fun K3 hK3 => ?_)
  refine WC.region ?_
  refine WL.op rfl (opW.makeFn (vs := []) (cs := [.pointer (some ⟨b3, 0, none⟩)]) rfl rfl ?_)
  refine WL.op rfl (opW.assignV (v := (.func (.func 17) #[] #[.pointer (some ⟨b3, 0, none⟩)])) rfl ?_)
  refine WL.nil ?_
  refine thenQ_n (hK3 _ _ ?_)
  refine WC.seq (fun K4 hK4 => ?_)
  refine WC.seq (fun K5 hK5 => ?_)
  refine WC.region ?_
  refine WL.op rfl (opW.moveV (v := v) rfl ?_)
  refine WL.op rfl (opW.lenV rfl ((hx.bel hS.old)) ?_)
  refine WL.op rfl (opW.moveI rfl ?_)
  refine WL.nil ?_
  refine thenQ_n (hK5 _ _ ?_)
  refine WC.block ?_
  refine WC.loop (fun q f w => ∃ k : Nat, Fits [(3, .pointer (some ⟨b3, 0, none⟩)), (4, (.func (.func 17) #[] #[.pointer (some ⟨b3, 0, none⟩)])), (8, v), (9, .int .i64 (xs.length : Int)), (10, .int .i64 (k : Int))] f ∧ St w0 [blkE b3 #[.int .u64 ((sumL (xs.take k) : Nat) : Int)] 34] w ∧ k ≤ xs.length ∧ q = xs.length - k) (xs.length) ?_ ?_
  ·
    exact ⟨0, ⟨rfl, rfl, rfl, rfl, rfl, trivial⟩, hS, Nat.zero_le _, rfl⟩
  ·
    rintro q f w ⟨k, hfit, hS, hk0, hm⟩
    refine WC.fits _ hfit (fun g => ?_)
    clear hfit
    refine WC.seq (fun K6 hK6 => ?_)
    refine WC.region ?_
    refine WL.op rfl (opW.lss rfl rfl ?_)
    refine WL.nil ?_
    refine thenQ_n (hK6 _ _ ?_)
    refine WC.seq (fun K7 hK7 => ?_)
    refine WC.cond _ rfl (fun hc0 => ?_) (fun hc0 => ?_)
    ·
      have hr0 := hc0
      try simp only [decide_eq_true_eq, decide_eq_false_iff_not, Bool.and_eq_true, Bool.or_eq_true, Bool.and_eq_false_iff, Bool.or_eq_false_iff, Bool.not_eq_true', Bool.not_eq_false', Int.not_lt, Int.not_le] at hc0
      have hkl : k < xs.length := by omega
      have hle := hx.le
      simp only [maxLen] at hle
      refine WC.skip ?_
      refine thenQ_n (hK7 _ _ ?_)
      refine WC.seq (fun K8 hK8 => ?_)
      refine WC.block ?_
      refine WC.seq (fun K9 hK9 => ?_)
      refine WC.region ?_
      refine WL.op rfl (opW.idxV rfl ((hx.bel hS.old)) rfl (by omega) ?_)
      refine WL.op rfl (opW.loadV rfl (((hx.bel hS.old).isPt hkl).ld rfl) ?_)
      refine WL.op rfl (opW.assignI rfl ?_)
      refine WL.nil ?_
      refine thenQ_n (hK9 _ _ ?_)
      refine WC.region ?_
      refine WL.op rfl (opW.moveV (v := (.func (.func 17) #[] #[.pointer (some ⟨b3, 0, none⟩)])) rfl ?_)
      refine WL.op rfl (opW.moveI rfl ?_)
      refine WL.op rfl (opW.callFn (cs := [.pointer (some ⟨b3, 0, none⟩)]) rfl (sum1_ok _ _ _ b3 _ xs[k].n (sumL_lt _) (hb _ (List.getElem_mem hkl)) hS) rfl ?_)
      intro v16 w hS
      refine WL.nil ?_
      refine blockQ_n ?_
      refine thenQ_n (hK8 _ _ ?_)
      refine WC.region ?_
      refine WL.op rfl (opW.add rfl rfl (wrap_i64 (by omega)) ?_)
      refine WL.op rfl (opW.moveI rfl ?_)
      refine WL.nil ?_
      refine thenQ_n ?_
      rw [← sumL_step hkl] at hS
      exact ⟨xs.length - (k + 1), by omega, k + 1, ⟨rfl, rfl, rfl, rfl, congrArg (Value.int .i64) (by omega), trivial⟩, hS, by omega, rfl⟩
    ·
      have hr0 := hc0
      try simp only [decide_eq_true_eq, decide_eq_false_iff_not, Bool.and_eq_true, Bool.or_eq_true, Bool.and_eq_false_iff, Bool.or_eq_false_iff, Bool.not_eq_true', Bool.not_eq_false', Int.not_lt, Int.not_le] at hc0
      refine WC.exit ?_
      refine thenQ_e ?_
      refine thenQ_e ?_
      refine blockQ_hit ?_
      refine thenQ_n (hK4 _ _ ?_)
      refine WC.seq (fun K10 hK10 => ?_)
      refine WC.region ?_
      refine WL.op rfl (opW.loadV rfl (hS.ld1 (by first | exact .here | exact .there (.here) | exact .there (.there (.here)) | exact .there (.there (.there (.here))) | exact .there (.there (.there (.there (.here)))) | exact .there (.there (.there (.there (.there (.here))))) | exact .there (.there (.there (.there (.there (.there (.here)))))) | exact .there (.there (.there (.there (.there (.there (.there (.here))))))) | exact .there (.there (.there (.there (.there (.there (.there (.there (.here)))))))) | exact .there (.there (.there (.there (.there (.there (.there (.there (.there (.here))))))))) | exact .there (.there (.there (.there (.there (.there (.there (.there (.there (.there (.here)))))))))) | exact .there (.there (.there (.there (.there (.there (.there (.there (.there (.there (.there (.here))))))))))) | exact .there (.there (.there (.there (.there (.there (.there (.there (.there (.there (.there (.there (.here))))))))))))) rfl) ?_)
      refine WL.op rfl (opW.assignI rfl ?_)
      refine WL.nil ?_
      refine thenQ_n (hK10 _ _ ?_)
      refine WC.ret ?_
      refine bodyQ_ret (.tmpI rfl .nil) ?_
      have hkk : k = xs.length := by omega
      rw [hkk, List.take_length]
      exact ⟨rfl, hS.old⟩

theorem wtimes_ok (w0 : World) (a b d : Nat) (up : Bool) (ha : a < 18446744073709551616) (hb : b < 18446744073709551616) (hd : d < 18446744073709551616) : Ret Try.prog 16 #[.int .u64 ((a : Nat) : Int), .int .u64 ((b : Nat) : Int), .int .u64 ((d : Nat) : Int), .bool up] w0 (fun u w' => u = .int .u64 ((tmF a b d up : Nat) : Int) ∧ Bel w0 w') := by
  refine Ret.enter (args := [.int .u64 ((a : Nat) : Int), .int .u64 ((b : Nat) : Int), .int .u64 ((d : Nat) : Int), .bool up]) Try.func16 rfl Try.ntmps16 Try.results16 rfl ?_
  have hS := St.start w0
  refine WC.seq (fun K1 hK1 => ?_)
  refine WC.region ?_
  refine WL.op rfl (opW.assignI rfl ?_)
  refine WL.nil ?_
  refine thenQ_n (hK1 _ _ ?_)
  refine WC.seq (fun K2 hK2 => ?_)
  refine WC.region ?_
  refine WL.op rfl (opW.moveI rfl ?_)
  refine WL.op rfl (opW.moveI rfl ?_)
  refine WL.op rfl (opW.call (wmul_ok _ a b ha hb) rfl ?_)
  rintro _ w ⟨rfl, hw⟩; replace hS := hS.bel hw
  refine WL.op rfl (opW.moveV (v := .tuple #[.int .u64 ((a * b / 18446744073709551616 : Nat) : Int), .int .u64 ((a * b % 18446744073709551616 : Nat) : Int)]) rfl ?_)
  refine WL.op rfl (opW.extract rfl rfl ?_)
  refine WL.op rfl (opW.extract rfl rfl ?_)
  refine WL.op rfl (opW.assignI rfl ?_)
  refine WL.op rfl (opW.assignI rfl ?_)
  refine WL.nil ?_
  refine thenQ_n (hK2 _ _ ?_)
  refine WC.seq (fun K3 hK3 => ?_)
  refine WC.seq (fun K4 hK4 => ?_)
  refine WC.region ?_
  refine WL.op rfl (opW.moveI rfl ?_)
  refine WL.op rfl (opW.moveI rfl ?_)
  refine WL.op rfl (opW.geq rfl rfl ?_)
  refine WL.nil ?_
  refine thenQ_n (hK4 _ _ ?_)
  refine WC.cond _ rfl (fun hc0 => ?_) (fun hc0 => ?_)
  ·
    have hr0 := hc0
    try simp only [decide_eq_true_eq, decide_eq_false_iff_not, Bool.and_eq_true, Bool.or_eq_true, Bool.and_eq_false_iff, Bool.or_eq_false_iff, Bool.not_eq_true', Bool.not_eq_false', Int.not_lt, Int.not_le] at hc0
    refine WC.seq (fun K5 hK5 => ?_)
    refine WC.region ?_
    refine WL.op rfl (opW.assignI rfl ?_)
    refine WL.nil ?_
    refine thenQ_n (hK5 _ _ ?_)
    refine WC.ret ?_
    refine thenQ_r ?_
    refine bodyQ_ret (.tmpI rfl .nil) ?_
    refine ⟨?_, hS.old⟩
    unfold tmF
    rw [if_pos (by omega)]
    rfl
  ·
    have hr0 := hc0
    try simp only [decide_eq_true_eq, decide_eq_false_iff_not, Bool.and_eq_true, Bool.or_eq_true, Bool.and_eq_false_iff, Bool.or_eq_false_iff, Bool.not_eq_true', Bool.not_eq_false', Int.not_lt, Int.not_le] at hc0
    have hlt : ¬ d ≤ a * b / 18446744073709551616 := by omega
    have hqq := quoLt hlt
    refine WC.skip ?_
    refine thenQ_n (hK3 _ _ ?_)
    refine WC.seq (fun K6 hK6 => ?_)
    refine WC.region ?_
    refine WL.op rfl (opW.moveI rfl ?_)
    refine WL.op rfl (opW.moveI rfl ?_)
    refine WL.op rfl (opW.moveI rfl ?_)
    refine WL.op rfl (opW.call (div64_ok _ (a * b / 18446744073709551616) (a * b % 18446744073709551616) d (by omega) (Nat.mod_lt _ (by decide)) hd) rfl ?_)
    rintro _ w ⟨rfl, hw⟩; replace hS := hS.bel hw
    rw [dm a b]
    refine WL.op rfl (opW.moveV (v := .tuple #[.int .u64 ((a * b / d : Nat) : Int), .int .u64 ((a * b % d : Nat) : Int)]) rfl ?_)
    refine WL.op rfl (opW.extract rfl rfl ?_)
    refine WL.op rfl (opW.extract rfl rfl ?_)
    refine WL.op rfl (opW.assignI rfl ?_)
    refine WL.op rfl (opW.assignI rfl ?_)
    refine WL.nil ?_
    refine thenQ_n (hK6 _ _ ?_)
    refine WC.seq (fun K7 hK7 => ?_)
    refine WC.seq (fun K8 hK8 => ?_)
    refine WC.region ?_
    refine WL.op rfl (opW.moveB rfl ?_)
    refine WL.op rfl (opW.moveB rfl ?_)
    refine WL.gd _ 30 _ rfl rfl rfl rfl (fun hg31 => opW.moveI rfl ⟨rfl, Bel.refl _⟩) (fun w hw => ?_)
    replace hS := hS.bel hw
    refine WL.gd _ 30 _ rfl rfl rfl rfl (fun hg32 => opW.gtr (by first | exact gv_of rfl hg32 | rfl) rfl ⟨rfl, Bel.refl _⟩) (fun w hw => ?_)
    replace hS := hS.bel hw
    refine WL.op rfl (opW.pickAnd rfl (by first | rfl) rfl ?_)
    refine WL.nil ?_
    refine thenQ_n (hK8 _ _ ?_)
    refine WC.cond _ rfl (fun hc1 => ?_) (fun hc1 => ?_)
    ·
      have hr1 := hc1
      try simp only [decide_eq_true_eq, decide_eq_false_iff_not, Bool.and_eq_true, Bool.or_eq_true, Bool.and_eq_false_iff, Bool.or_eq_false_iff, Bool.not_eq_true', Bool.not_eq_false', Int.not_lt, Int.not_le] at hc1
      have hup : (up && decide (0 < a * b % d)) = true := by rw [← hr1]; congr 1; rw [Bool.eq_iff_iff, decide_eq_true_eq, decide_eq_true_eq]; omega
      refine WC.seq (fun K9 hK9 => ?_)
      refine WC.region ?_
      refine WL.op rfl (opW.moveI rfl ?_)
      refine WL.op rfl (opW.buildSl hS (([⟨a * b / d⟩, ⟨1⟩] : List U64)) [.int .u64 ((a * b / d : Nat) : Int), .int .u64 1] rfl rfl rfl rfl (by decide) ?_)
      intro b35 w hw hS
      refine WL.op rfl (opW.call (wsum_ok _ _ [⟨a * b / d⟩, ⟨1⟩] (hS.sl (xs := ([⟨a * b / d⟩, ⟨1⟩] : List U64)) (by first | exact .here | exact .there (.here) | exact .there (.there (.here)) | exact .there (.there (.there (.here))) | exact .there (.there (.there (.there (.here)))) | exact .there (.there (.there (.there (.there (.here))))) | exact .there (.there (.there (.there (.there (.there (.here)))))) | exact .there (.there (.there (.there (.there (.there (.there (.here))))))) | exact .there (.there (.there (.there (.there (.there (.there (.there (.here)))))))) | exact .there (.there (.there (.there (.there (.there (.there (.there (.there (.here))))))))) | exact .there (.there (.there (.there (.there (.there (.there (.there (.there (.there (.here)))))))))) | exact .there (.there (.there (.there (.there (.there (.there (.there (.there (.there (.there (.here))))))))))) | exact .there (.there (.there (.there (.there (.there (.there (.there (.there (.there (.there (.there (.here)))))))))))))) (okl2 hqq (by decide))) rfl ?_)
      rintro _ w ⟨rfl, hw⟩; replace hS := hS.bel hw
      refine WL.op rfl (opW.assignI rfl ?_)
      refine WL.nil ?_
      refine thenQ_n (hK9 _ _ ?_)
      refine WC.ret ?_
      refine thenQ_r ?_
      refine bodyQ_ret (.tmpI rfl .nil) ?_
      refine ⟨?_, hS.old⟩
      unfold tmF
      rw [if_neg hlt, if_pos hup]
      show Value.int .u64 _ = Value.int .u64 _
      congr 2
      unfold sumL
      simp only [List.foldl_cons, List.foldl_nil]
      rw [show sumH 0 (a * b / d) = a * b / d from by unfold sumH; rw [if_pos (by omega)]; omega]
    ·
      have hr1 := hc1
      try simp only [decide_eq_true_eq, decide_eq_false_iff_not, Bool.and_eq_true, Bool.or_eq_true, Bool.and_eq_false_iff, Bool.or_eq_false_iff, Bool.not_eq_true', Bool.not_eq_false', Int.not_lt, Int.not_le] at hc1
      have hup : (up && decide (0 < a * b % d)) = false := by rw [← hr1]; congr 1; rw [Bool.eq_iff_iff, decide_eq_true_eq, decide_eq_true_eq]; omega
      refine WC.skip ?_
      refine thenQ_n (hK7 _ _ ?_)
      refine WC.seq (fun K10 hK10 => ?_)
      refine WC.region ?_
      refine WL.op rfl (opW.moveI rfl ?_)
      refine WL.op rfl (opW.assignI rfl ?_)
      refine WL.nil ?_
      refine thenQ_n (hK10 _ _ ?_)
      refine WC.ret ?_
      refine bodyQ_ret (.tmpI rfl .nil) ?_
      refine ⟨?_, hS.old⟩
      unfold tmF
      rw [if_neg hlt, if_neg (by rw [hup]; decide)]
      rfl

theorem sumL_min (l : List U64) : sumL l = min ((l.map U64.n).sum) 18446744073709551615 := by
  have h : ∀ (l : List U64) (a : Nat), a ≤ 18446744073709551615 → l.foldl (fun a x => sumH a x.n) a = min (a + (l.map U64.n).sum) 18446744073709551615 := by
    intro l
    induction l with
    | nil => intro a h; simp; omega
    | cons x r ih =>
      intro a h
      simp only [List.foldl_cons, List.map_cons, List.sum_cons]
      rw [ih _ (by unfold sumH; split <;> omega)]
      unfold sumH
      split <;> omega
  have := h l 0 (by decide)
  simpa [sumL] using this

end Go.Fer
