/- BudgetsTold -/
import Derived.Test.YteildfjhodajpaaDoorF
set_option linter.all false
namespace Go.Fer
open Go Go.Proofs Go.RowKit

def leB (n m : Nat) : List UInt8 := (List.range m).map fun i => UInt8.ofNat (n / 2 ^ (8 * i))
theorem leB_succ (n k : Nat) : leB n (k + 1) = leB n k ++ [UInt8.ofNat (n / 2 ^ (8 * k))] := by simp [leB, List.range_succ]
theorem leB_len (n k : Nat) : (leB n k).length = k := by simp [leB]
theorem leN_leB (n m : Nat) : leN (leB n m) = n % 2 ^ (8 * m) := by
  induction m with
  | zero => simp [leB, leN, Nat.mod_one]
  | succ m ih =>
    rw [leB_succ, leN_append, ih, leB_len]
    simp only [leN, UInt8.toNat_ofNat', Nat.mul_zero, Nat.add_zero]
    rw [show 8 * (m + 1) = 8 * m + 8 by omega, Nat.pow_add, Nat.mod_mul]
theorem shr_8k (n k : Nat) (hk : k ≤ 8) : Int.fdiv (n : Int) (2 ^ (min (Int.toNat (((8 * k : Nat) : Int))) IntKind.u64.bits)) = ((n / 2 ^ (8 * k) : Nat) : Int) := shr_nat (by simp only [IntKind.bits]; omega)
theorem by8n (n : Nat) : (n : Int) % 256 = ((UInt8.ofNat n).toNat : Int) := by simp
theorem told_u {n : Nat} (h : n < 4294967296) : toldR (2 :: leB n 4) = (0, n) := by
  have e : isT (2 :: leB n 4) 0 = true := by
    unfold isT longN tagN
    simp [leB_len]
  rw [toldR_hit (k := 0) (by decide) (fun j hj => by omega) e]
  have e2 : getT (2 :: leB n 4) 0 = n := by
    show leN (((2 :: leB n 4).drop 1).take 4) = n
    rw [List.drop_one, List.tail_cons, List.take_of_length_le (by rw [leB_len]; exact Nat.le_refl _), leN_leB]
    exact Nat.mod_eq_of_lt h
  rw [e2]; rfl
theorem told_p {n : Nat} (h : n < 18446744073709551616) : toldR (3 :: leB n 8) = (1, n) := by
  have e0 : isT (3 :: leB n 8) 0 = false := by
    unfold isT longN tagN
    simp [leB_len]
  have e : isT (3 :: leB n 8) 1 = true := by
    unfold isT longN tagN
    simp [leB_len]
  rw [toldR_hit (k := 1) (by decide) (fun j hj => (show j = 0 by omega) ▸ e0) e]
  have e2 : getT (3 :: leB n 8) 1 = n := by
    show leN (((3 :: leB n 8).drop 1).take 8) = n
    rw [List.drop_one, List.tail_cons, List.take_of_length_le (by rw [leB_len]; exact Nat.le_refl _), leN_leB]
    exact Nat.mod_eq_of_lt h
  rw [e2]; rfl

theorem number_ok (w0 : World) (n many : Nat) (hn : n < 18446744073709551616) (hm8 : many ≤ 8) : Ret Tryd.prog 13 #[.int .u64 ((n : Nat) : Int), .int .i64 (many : Int)] w0 (fun u w' => New w0 w' u 5 (leB n many) ∧ Bel w0 w') := by
  refine Ret.enter (args := [.int .u64 ((n : Nat) : Int), .int .i64 (many : Int)]) Tryd.func13 rfl Tryd.ntmps13 Tryd.results13 rfl ?_
  have hS := St.start w0
  refine WC.seq (fun K1 hK1 => ?_)
  refine WC.region ?_
  refine WL.op rfl (opW.assignV (v := .slice none 0 0) rfl ?_)
  refine WL.nil ?_
  refine thenQ_n (hK1 _ _ ?_)
  refine WC.seq (fun K2 hK2 => ?_)
  refine WC.region ?_
  refine WL.op rfl (opW.assignV (v := .slice none 0 0) rfl ?_)
  refine WL.nil ?_
  refine thenQ_n (hK2 _ _ ?_)
  refine WC.seq (fun K3 hK3 => ?_)
  refine WC.seq (fun K4 hK4 => ?_)
  refine WC.region ?_
  refine WL.op rfl (opW.assignI rfl ?_)
  refine WL.nil ?_
  refine thenQ_n (hK4 _ _ ?_)
  refine WC.block ?_
  refine WC.loop (fun q f w => ∃ (k : Nat) (vo : Value), Fits [(0, .int .u64 ((n : Nat) : Int)), (1, .int .i64 (many : Int)), (5, vo), (6, .int .i64 (k : Int))] f ∧ St w0 [ownE vo 5 (leB n k)] w ∧ k ≤ many ∧ q = many - k) (many) ?_ ?_
  ·
    exact ⟨0, .slice none 0 0, ⟨rfl, rfl, rfl, rfl, trivial⟩, hS.nilOwn _, Nat.zero_le _, rfl⟩
  ·
    rintro q f w ⟨k, vo, hfit, hS, hk0, hmm⟩
    refine WC.fits _ hfit (fun g => ?_)
    clear hfit
    refine WC.seq (fun K5 hK5 => ?_)
    refine WC.seq (fun K6 hK6 => ?_)
    refine WC.region ?_
    refine WL.op rfl (opW.moveI rfl ?_)
    refine WL.op rfl (opW.moveI rfl ?_)
    refine WL.op rfl (opW.lss rfl rfl ?_)
    refine WL.nil ?_
    refine thenQ_n (hK6 _ _ ?_)
    refine WC.cond _ rfl (fun hc0 => ?_) (fun hc0 => ?_)
    ·
      have hr0 := hc0
      try simp only [decide_eq_true_eq, decide_eq_false_iff_not, Bool.and_eq_true, Bool.or_eq_true, Bool.and_eq_false_iff, Bool.or_eq_false_iff, Bool.not_eq_true', Bool.not_eq_false', Int.not_lt, Int.not_le] at hc0
      have hkl : k < many := by omega
      have hll := leB_len n k
      have hdn : n / 2 ^ (8 * k) < 18446744073709551616 := Nat.lt_of_le_of_lt (Nat.div_le_self _ _) hn
      refine WC.skip ?_
      refine thenQ_n (hK5 _ _ ?_)
      refine WC.seq (fun K7 hK7 => ?_)
      refine WC.block ?_
      refine WC.region ?_
      refine WL.op rfl (opW.moveV (v := vo) rfl ?_)
      refine WL.op rfl (opW.moveI rfl ?_)
      refine WL.op rfl (opW.moveI rfl ?_)
      refine WL.op rfl (opW.mul rfl rfl (show IntKind.i64.wrap _ = ((8 * k : Nat) : Int) from (wrap_i64 (by omega)).trans (by omega)) ?_)
      refine WL.op rfl (opW.conv rfl (wrap_u64 (by omega)) ?_)
      refine WL.op rfl (opW.shr rfl rfl (by omega) (shr_8k n k (by omega)) ?_)
      refine WL.op rfl (opW.conv rfl ((wrap_u8_mod _).trans (by8n _)) ?_)
      refine WL.op rfl (opW.buildSl hS (([UInt8.ofNat (n / 2 ^ (8 * k))] : List UInt8)) [.int .u8 ((UInt8.ofNat (n / 2 ^ (8 * k))).toNat : Int)] rfl rfl rfl rfl (by decide) ?_)
      intro b19 w hw hS
      refine WL.op rfl (opW.appendOwn (α := UInt8) rfl hS rfl (by first | exact .here | exact .there (.here) | exact .there (.there (.here)) | exact .there (.there (.there (.here))) | exact .there (.there (.there (.there (.here)))) | exact .there (.there (.there (.there (.there (.here))))) | exact .there (.there (.there (.there (.there (.there (.here)))))) | exact .there (.there (.there (.there (.there (.there (.there (.here))))))) | exact .there (.there (.there (.there (.there (.there (.there (.there (.here)))))))) | exact .there (.there (.there (.there (.there (.there (.there (.there (.there (.here))))))))) | exact .there (.there (.there (.there (.there (.there (.there (.there (.there (.there (.here)))))))))) | exact .there (.there (.there (.there (.there (.there (.there (.there (.there (.there (.there (.here))))))))))) | exact .there (.there (.there (.there (.there (.there (.there (.there (.there (.there (.there (.there (.here))))))))))))) (hS.sl (by first | exact .here | exact .there (.here) | exact .there (.there (.here)) | exact .there (.there (.there (.here))) | exact .there (.there (.there (.there (.here)))) | exact .there (.there (.there (.there (.there (.here))))) | exact .there (.there (.there (.there (.there (.there (.here)))))) | exact .there (.there (.there (.there (.there (.there (.there (.here))))))) | exact .there (.there (.there (.there (.there (.there (.there (.there (.here)))))))) | exact .there (.there (.there (.there (.there (.there (.there (.there (.there (.here))))))))) | exact .there (.there (.there (.there (.there (.there (.there (.there (.there (.there (.here)))))))))) | exact .there (.there (.there (.there (.there (.there (.there (.there (.there (.there (.there (.here))))))))))) | exact .there (.there (.there (.there (.there (.there (.there (.there (.there (.there (.there (.there (.here)))))))))))))) (by simp only [List.length_cons, List.length_nil]; omega) (by simp only [maxLen]; simp only [List.length_cons, List.length_nil]; omega) ?_)
      intro v20 w hS; replace hS := hS _ (by first | exact .here | exact .there (.here) | exact .there (.there (.here)) | exact .there (.there (.there (.here))) | exact .there (.there (.there (.there (.here)))) | exact .there (.there (.there (.there (.there (.here))))) | exact .there (.there (.there (.there (.there (.there (.here)))))) | exact .there (.there (.there (.there (.there (.there (.there (.here))))))) | exact .there (.there (.there (.there (.there (.there (.there (.there (.here)))))))) | exact .there (.there (.there (.there (.there (.there (.there (.there (.there (.here))))))))) | exact .there (.there (.there (.there (.there (.there (.there (.there (.there (.there (.here)))))))))) | exact .there (.there (.there (.there (.there (.there (.there (.there (.there (.there (.there (.here))))))))))) | exact .there (.there (.there (.there (.there (.there (.there (.there (.there (.there (.there (.there (.here)))))))))))))
      refine WL.op rfl (opW.assignV (v := v20) rfl ?_)
      refine WL.nil ?_
      refine blockQ_n ?_
      refine thenQ_n (hK7 _ _ ?_)
      refine WC.region ?_
      refine WL.op rfl (opW.moveI rfl ?_)
      refine WL.op rfl (opW.add rfl rfl (wrap_i64 (by omega)) ?_)
      refine WL.op rfl (opW.assignI rfl ?_)
      refine WL.nil ?_
      refine thenQ_n ?_
      exact ⟨many - (k + 1), by omega, k + 1, v20, ⟨rfl, rfl, rfl, congrArg (Value.int .i64) (by omega), trivial⟩, (by rw [leB_succ]; exact hS.sub (by repeat (first | with_reducible exact List.nil_sublist _ | with_reducible exact List.Sublist.refl _ | with_reducible refine List.Sublist.cons₂ _ ?_ | with_reducible refine List.Sublist.cons _ ?_))), by omega, rfl⟩
    ·
      have hr0 := hc0
      try simp only [decide_eq_true_eq, decide_eq_false_iff_not, Bool.and_eq_true, Bool.or_eq_true, Bool.and_eq_false_iff, Bool.or_eq_false_iff, Bool.not_eq_true', Bool.not_eq_false', Int.not_lt, Int.not_le] at hc0
      obtain rfl : k = many := by omega
      refine WC.exit ?_
      refine thenQ_e ?_
      refine thenQ_e ?_
      refine blockQ_hit ?_
      refine thenQ_n (hK3 _ _ ?_)
      refine WC.seq (fun K8 hK8 => ?_)
      refine WC.region ?_
      refine WL.op rfl (opW.moveV (v := vo) rfl ?_)
      refine WL.op rfl (opW.assignV (v := vo) rfl ?_)
      refine WL.nil ?_
      refine thenQ_n (hK8 _ _ ?_)
      refine WC.ret ?_
      refine bodyQ_ret (.tmpV (v := vo) rfl .nil) ?_
      exact ⟨hS.own_new (by first | exact .here | exact .there (.here) | exact .there (.there (.here)) | exact .there (.there (.there (.here))) | exact .there (.there (.there (.there (.here)))) | exact .there (.there (.there (.there (.there (.here))))) | exact .there (.there (.there (.there (.there (.there (.here)))))) | exact .there (.there (.there (.there (.there (.there (.there (.here))))))) | exact .there (.there (.there (.there (.there (.there (.there (.there (.here)))))))) | exact .there (.there (.there (.there (.there (.there (.there (.there (.there (.here))))))))) | exact .there (.there (.there (.there (.there (.there (.there (.there (.there (.there (.here)))))))))) | exact .there (.there (.there (.there (.there (.there (.there (.there (.there (.there (.there (.here))))))))))) | exact .there (.there (.there (.there (.there (.there (.there (.there (.there (.there (.there (.there (.here))))))))))))), hS.old⟩

theorem isW_1 : isW kL 1 = true := by decide +kernel
theorem isW_2 : isW kL 2 = false := by decide +kernel
def pr3 (i : Nat) : UInt8 := ([0, 2, 9] : List UInt8).getD (i % 3) 0
theorem isW_3 (i : Nat) : isW kL (pr3 i) = false := by
  have h : ∀ j : Fin 3, isW kL (([0, 2, 9] : List UInt8).getD j.val 0) = false := by decide +kernel
  exact h ⟨i % 3, Nat.mod_lt _ (by decide)⟩
def wp (p : UInt8) (s : SlV) : Instr := ⟨p, ⟨none, 0, 0⟩, s⟩
def othL (s : SlV) (k : Nat) : List Instr := (List.range k).map fun i => wp (pr3 i) s
theorem othL_succ (s : SlV) (k : Nat) : othL s (k + 1) = othL s k ++ [wp (pr3 k) s] := by simp [othL, List.range_succ]
theorem othL_len (s : SlV) (k : Nat) : (othL s k).length = k := by simp [othL]
theorem othL_is {w : World} {s : SlV} {d : List UInt8} (h : SlR w s.v d) : ∀ k, DIs w (othL s k) (List.replicate k d)
  | 0 => DIs.nil w
  | k + 1 => by rw [othL_succ, List.replicate_succ']; exact (othL_is h k).append (DIs.one h)
/-- both are told, none is bad -/
def Both (s : BS) (u p : Nat) : Prop := s.S 0 = some u ∧ s.S 1 = some p ∧ s.bad = -1
theorem both_with {d1 d2 : List UInt8} {k1 k2 u p : Nat} {xs : List SlV} (hxs : xs.length = 2) (h1 : toldR d1 = ((k1 : Int), u)) (h2 : toldR d2 = ((k2 : Int), p)) (hk : k1 ≠ k2) :
    (stF kL (wIns xs) ([d1, d2] ++ [[], []])).S k1 = some u ∧ (stF kL (wIns xs) ([d1, d2] ++ [[], []])).S k2 = some p ∧ (stF kL (wIns xs) ([d1, d2] ++ [[], []])).bad = -1 := by
  match xs, hxs with
  | [x1, x2], _ =>
    have hW : wIns [x1, x2] = ((([] ++ [wi x1]) ++ [wi x2]) ++ [i2]) ++ [i2] := rfl
    have hD : [d1, d2] ++ [[], []] = ((([] ++ [d1]) ++ [d2]) ++ [[]]) ++ [[]] := rfl
    have p1 : isW kL (wi x1).program = true := isW_1
    have p2 : isW kL (wi x2).program = true := isW_1
    have p3 : isW kL i2.program = false := isW_2
    rw [hW, hD, stF_snoc (by rfl), stF_snoc (by rfl), stF_snoc (by rfl), stF_snoc (by rfl), p1, p2, p3]
    have s0 : stF kL [] [] = ⟨0, fun _ => none, -1⟩ := rfl
    rw [s0, bstep_set (kn := k1) (show ¬ (0 : Int) ≤ -1 by decide) h1 rfl, bstep_set (kn := k2) (show ¬ (0 : Int) ≤ -1 by decide) h2 (by simp only; rw [if_neg (Ne.symm hk)]; rfl), bstep_not, bstep_not]
    refine ⟨?_, ?_, rfl⟩
    · simp [hk]
    · simp
theorem both_oth {ins : List Instr} {ds : List (List UInt8)} (hl : ins.length = ds.length) (sd : SlV) (d : List UInt8) {u p : Nat} (h : Both (stF kL ins ds) u p) : ∀ k, Both (stF kL (ins ++ othL sd k) (ds ++ List.replicate k d)) u p
  | 0 => by simpa [othL] using h
  | k + 1 => by
    have ih := both_oth hl sd d h k
    rw [othL_succ, List.replicate_succ', ← List.append_assoc, ← List.append_assoc, stF_snoc (by simp [othL_len, hl]), show (wp (pr3 k) sd).program = pr3 k from rfl, isW_3, bstep_not]
    exact ih
theorem both_bud {keys : List (Vector UInt8 32)} {ins : List Instr} {ds : List (List UInt8)} {u p : Nat} (h : Both (stF keys ins ds) u p) : budF keys ins ds = ⟨min u 1400000, p, -1⟩ := by
  obtain ⟨h1, h2, h3⟩ := h
  unfold budF budR
  rw [h1, h2, h3]
  rfl
theorem both_more {ins : List Instr} {ds : List (List UInt8)} {u p nn : Nat} {kn : Nat} (hl : ins.length = ds.length) (h : Both (stF kL ins ds) u p) {x : Instr} (hx : x.program = 1) {d : List UInt8} (ht : toldR d = ((kn : Int), nn)) (hk : kn = 0 ∨ kn = 1) :
    budF kL (ins ++ [x]) (ds ++ [d]) = ⟨min u 1400000, p, (ins.length : Int)⟩ ∧ 0 ≤ (stF kL (ins ++ [x]) (ds ++ [d])).bad := by
  obtain ⟨h1, h2, h3⟩ := h
  have hs : ((stF kL ins ds).S (kn : Int).toNat).isSome = true := by
    rcases hk with rfl | rfl
    · show ((stF kL ins ds).S 0).isSome = true; rw [h1]; rfl
    · show ((stF kL ins ds).S 1).isSome = true; rw [h2]; rfl
  have e : stF kL (ins ++ [x]) (ds ++ [d]) = { stF kL ins ds with bad := (ins.length : Int) } := by
    rw [stF_snoc hl, hx, isW_1, bstep_new (by rw [h3]; decide) ht (.inr hs)]
  unfold budF
  rw [e]
  refine ⟨?_, by show (0 : Int) ≤ (ins.length : Int); omega⟩
  unfold budR
  simp only
  rw [h1, h2]
  rfl
theorem bud_still {ins : List Instr} {ds : List (List UInt8)} (hl : ins.length = ds.length) (h : 0 ≤ (stF kL ins ds).bad) {x : Instr} (hx : x.program = 1) (d : List UInt8) : budF kL (ins ++ [x]) (ds ++ [d]) = budF kL ins ds ∧ 0 ≤ (stF kL (ins ++ [x]) (ds ++ [d])).bad := by
  have e : stF kL (ins ++ [x]) (ds ++ [d]) = stF kL ins ds := by rw [stF_snoc hl, hx, isW_1, bstep_bad h]
  unfold budF
  rw [e]
  exact ⟨rfl, h⟩

theorem told_law (w0 : World) (u p o : Nat) (hu : u ≤ 4294967295) (hp : p < 18446744073709551616) (ho : o ≤ 255) (hld : Laid w0) : Ret Tryd.prog 4 #[.int .u32 (u : Int), .int .u64 ((p : Nat) : Int), .int .u8 (o : Int)] w0 (fun r w' => r = .bool true ∧ Bel w0 w') := by
  refine Ret.enter (args := [.int .u32 (u : Int), .int .u64 ((p : Nat) : Int), .int .u8 (o : Int)]) Tryd.func4 rfl Tryd.ntmps4 Tryd.results4 rfl ?_
  have hS := St.start w0
  refine WC.seq (fun K1 hK1 => ?_)
  refine WC.region ?_
  refine WL.op rfl (opW.assignB rfl ?_)
  refine WL.nil ?_
  refine thenQ_n (hK1 _ _ ?_)
  refine WC.seq (fun K2 hK2 => ?_)
  refine WC.region ?_
  refine WL.op rfl (opW.moveI rfl ?_)
  refine WL.op rfl (opW.geq rfl rfl ?_)
  refine WL.op rfl (opW.assignB rfl ?_)
  refine WL.nil ?_
  refine thenQ_n (hK2 _ _ ?_)
  refine WC.seq (fun K3 hK3 => ?_)
  refine WC.region ?_
  refine WL.op rfl (opW.buildSl hS (([2] : List UInt8)) [.int .u8 2] rfl rfl rfl rfl (by decide) ?_)
  intro b16 w hw hS
  refine WL.op rfl (opW.moveI rfl ?_)
  refine WL.op rfl (opW.conv rfl (wrap_u64 (by omega)) ?_)
  refine WL.op rfl (opW.call (number_ok _ u 4 (by omega) (by decide)) rfl ?_)
  rintro v19 w h19; replace hS := hS.newOwn h19.2 h19.1.1 h19.1.2
  refine WL.op rfl (opW.appendOwn (α := UInt8) rfl hS rfl (by first | exact .here | exact .there (.here) | exact .there (.there (.here)) | exact .there (.there (.there (.here))) | exact .there (.there (.there (.there (.here)))) | exact .there (.there (.there (.there (.there (.here))))) | exact .there (.there (.there (.there (.there (.there (.here)))))) | exact .there (.there (.there (.there (.there (.there (.there (.here))))))) | exact .there (.there (.there (.there (.there (.there (.there (.there (.here)))))))) | exact .there (.there (.there (.there (.there (.there (.there (.there (.there (.here))))))))) | exact .there (.there (.there (.there (.there (.there (.there (.there (.there (.there (.here)))))))))) | exact .there (.there (.there (.there (.there (.there (.there (.there (.there (.there (.there (.here))))))))))) | exact .there (.there (.there (.there (.there (.there (.there (.there (.there (.there (.there (.there (.here))))))))))))) (hS.sl (v := v19) (xs := leB u 4) (by first | exact .here | exact .there (.here) | exact .there (.there (.here)) | exact .there (.there (.there (.here))) | exact .there (.there (.there (.there (.here)))) | exact .there (.there (.there (.there (.there (.here))))) | exact .there (.there (.there (.there (.there (.there (.here)))))) | exact .there (.there (.there (.there (.there (.there (.there (.here))))))) | exact .there (.there (.there (.there (.there (.there (.there (.there (.here)))))))) | exact .there (.there (.there (.there (.there (.there (.there (.there (.there (.here))))))))) | exact .there (.there (.there (.there (.there (.there (.there (.there (.there (.there (.here)))))))))) | exact .there (.there (.there (.there (.there (.there (.there (.there (.there (.there (.there (.here))))))))))) | exact .there (.there (.there (.there (.there (.there (.there (.there (.there (.there (.there (.there (.here)))))))))))))) (by simp only [List.length_append, List.length_cons, List.length_nil, leB_len]; omega) (by simp only [maxLen, List.length_append, List.length_cons, List.length_nil, leB_len]; omega) ?_)
  intro v20 w hS; replace hS := hS _ (by first | exact .here | exact .there (.here) | exact .there (.there (.here)) | exact .there (.there (.there (.here))) | exact .there (.there (.there (.there (.here)))) | exact .there (.there (.there (.there (.there (.here))))) | exact .there (.there (.there (.there (.there (.there (.here)))))) | exact .there (.there (.there (.there (.there (.there (.there (.here))))))) | exact .there (.there (.there (.there (.there (.there (.there (.there (.here)))))))) | exact .there (.there (.there (.there (.there (.there (.there (.there (.there (.here))))))))) | exact .there (.there (.there (.there (.there (.there (.there (.there (.there (.there (.here)))))))))) | exact .there (.there (.there (.there (.there (.there (.there (.there (.there (.there (.there (.here))))))))))) | exact .there (.there (.there (.there (.there (.there (.there (.there (.there (.there (.there (.there (.here)))))))))))))
  obtain ⟨sa, rfl⟩ := (hS.sl (v := v20) (xs := ([2] ++ leB u 4)) (by first | exact .here | exact .there (.here) | exact .there (.there (.here)) | exact .there (.there (.there (.here))) | exact .there (.there (.there (.there (.here)))) | exact .there (.there (.there (.there (.there (.here))))) | exact .there (.there (.there (.there (.there (.there (.here)))))) | exact .there (.there (.there (.there (.there (.there (.there (.here))))))) | exact .there (.there (.there (.there (.there (.there (.there (.there (.here)))))))) | exact .there (.there (.there (.there (.there (.there (.there (.there (.there (.here))))))))) | exact .there (.there (.there (.there (.there (.there (.there (.there (.there (.there (.here)))))))))) | exact .there (.there (.there (.there (.there (.there (.there (.there (.there (.there (.there (.here))))))))))) | exact .there (.there (.there (.there (.there (.there (.there (.there (.there (.there (.there (.there (.here)))))))))))))).asV
  have hta : toldR ([2] ++ leB u 4) = (0, u) := told_u (by omega)
  generalize [2] ++ leB u 4 = la at hS hta
  refine WL.op rfl (opW.assignV (v := sa.v) rfl ?_)
  refine WL.nil ?_
  refine thenQ_n (hK3 _ _ ?_)
  refine WC.seq (fun K4 hK4 => ?_)
  refine WC.region ?_
  refine WL.op rfl (opW.buildSl hS (([3] : List UInt8)) [.int .u8 3] rfl rfl rfl rfl (by decide) ?_)
  intro b21 w hw hS
  refine WL.op rfl (opW.moveI rfl ?_)
  refine WL.op rfl (opW.call (number_ok _ p 8 hp (by decide)) rfl ?_)
  rintro v23 w h23; replace hS := hS.newOwn h23.2 h23.1.1 h23.1.2
  refine WL.op rfl (opW.appendOwn (α := UInt8) rfl hS rfl (by first | exact .here | exact .there (.here) | exact .there (.there (.here)) | exact .there (.there (.there (.here))) | exact .there (.there (.there (.there (.here)))) | exact .there (.there (.there (.there (.there (.here))))) | exact .there (.there (.there (.there (.there (.there (.here)))))) | exact .there (.there (.there (.there (.there (.there (.there (.here))))))) | exact .there (.there (.there (.there (.there (.there (.there (.there (.here)))))))) | exact .there (.there (.there (.there (.there (.there (.there (.there (.there (.here))))))))) | exact .there (.there (.there (.there (.there (.there (.there (.there (.there (.there (.here)))))))))) | exact .there (.there (.there (.there (.there (.there (.there (.there (.there (.there (.there (.here))))))))))) | exact .there (.there (.there (.there (.there (.there (.there (.there (.there (.there (.there (.there (.here))))))))))))) (hS.sl (v := v23) (xs := leB p 8) (by first | exact .here | exact .there (.here) | exact .there (.there (.here)) | exact .there (.there (.there (.here))) | exact .there (.there (.there (.there (.here)))) | exact .there (.there (.there (.there (.there (.here))))) | exact .there (.there (.there (.there (.there (.there (.here)))))) | exact .there (.there (.there (.there (.there (.there (.there (.here))))))) | exact .there (.there (.there (.there (.there (.there (.there (.there (.here)))))))) | exact .there (.there (.there (.there (.there (.there (.there (.there (.there (.here))))))))) | exact .there (.there (.there (.there (.there (.there (.there (.there (.there (.there (.here)))))))))) | exact .there (.there (.there (.there (.there (.there (.there (.there (.there (.there (.there (.here))))))))))) | exact .there (.there (.there (.there (.there (.there (.there (.there (.there (.there (.there (.there (.here)))))))))))))) (by simp only [List.length_append, List.length_cons, List.length_nil, leB_len]; omega) (by simp only [maxLen, List.length_append, List.length_cons, List.length_nil, leB_len]; omega) ?_)
  intro v24 w hS; replace hS := hS _ (by first | exact .here | exact .there (.here) | exact .there (.there (.here)) | exact .there (.there (.there (.here))) | exact .there (.there (.there (.there (.here)))) | exact .there (.there (.there (.there (.there (.here))))) | exact .there (.there (.there (.there (.there (.there (.here)))))) | exact .there (.there (.there (.there (.there (.there (.there (.here))))))) | exact .there (.there (.there (.there (.there (.there (.there (.there (.here)))))))) | exact .there (.there (.there (.there (.there (.there (.there (.there (.there (.here))))))))) | exact .there (.there (.there (.there (.there (.there (.there (.there (.there (.there (.here)))))))))) | exact .there (.there (.there (.there (.there (.there (.there (.there (.there (.there (.there (.here))))))))))) | exact .there (.there (.there (.there (.there (.there (.there (.there (.there (.there (.there (.there (.here)))))))))))))
  obtain ⟨sb, rfl⟩ := (hS.sl (v := v24) (xs := ([3] ++ leB p 8)) (by first | exact .here | exact .there (.here) | exact .there (.there (.here)) | exact .there (.there (.there (.here))) | exact .there (.there (.there (.there (.here)))) | exact .there (.there (.there (.there (.there (.here))))) | exact .there (.there (.there (.there (.there (.there (.here)))))) | exact .there (.there (.there (.there (.there (.there (.there (.here))))))) | exact .there (.there (.there (.there (.there (.there (.there (.there (.here)))))))) | exact .there (.there (.there (.there (.there (.there (.there (.there (.there (.here))))))))) | exact .there (.there (.there (.there (.there (.there (.there (.there (.there (.there (.here)))))))))) | exact .there (.there (.there (.there (.there (.there (.there (.there (.there (.there (.there (.here))))))))))) | exact .there (.there (.there (.there (.there (.there (.there (.there (.there (.there (.there (.there (.here)))))))))))))).asV
  have htb : toldR ([3] ++ leB p 8) = (1, p) := told_p hp
  generalize [3] ++ leB p 8 = lb at hS htb
  refine WL.op rfl (opW.assignV (v := sb.v) rfl ?_)
  refine WL.nil ?_
  refine thenQ_n (hK4 _ _ ?_)
  refine WC.seq (fun K5 hK5 => ?_)
  refine WC.region ?_
  refine WL.op rfl (opW.moveV (v := sa.v) rfl ?_)
  refine WL.op rfl (opW.moveV (v := sb.v) rfl ?_)
  refine WL.op rfl (opW.buildSl hS (([sa, sb] : List SlV)) [sa.v, sb.v] rfl rfl rfl rfl (by decide) ?_)
  intro b27 w hw hS
  refine WL.op rfl (opW.assignV (v := .slice (some ⟨b27, 0, none⟩) 2 2) rfl ?_)
  refine WL.nil ?_
  refine thenQ_n (hK5 _ _ ?_)
  refine WC.mid (fun f w => ∃ (vl : Value) (X : List SlV) (dX : List (List UInt8)), Fits [(0, .int .u32 (u : Int)), (1, .int .u64 ((p : Nat) : Int)), (2, .int .u8 (o : Int)), (8, sa.v), (9, sb.v), (10, vl)] f ∧ St w0 [ownE vl 40 X, ownE sb.v 5 lb, ownE sa.v 5 la] w ∧ ((X = [sa, sb] ∧ dX = [la, lb]) ∨ (X = [sb, sa] ∧ dX = [lb, la]))) ?_ ?_
  ·
    refine WC.seq (fun K6 hK6 => ?_)
    refine WC.region ?_
    refine WL.op rfl (opW.moveB rfl ?_)
    refine WL.nil ?_
    refine thenQ_n (hK6 _ _ ?_)
    refine WC.cond _ rfl (fun hc0 => ?_) (fun hc0 => ?_)
    ·
      have hr0 := hc0
      try simp only [decide_eq_true_eq, decide_eq_false_iff_not, Bool.and_eq_true, Bool.or_eq_true, Bool.and_eq_false_iff, Bool.or_eq_false_iff, Bool.not_eq_true', Bool.not_eq_false', Int.not_lt, Int.not_le] at hc0
      refine WC.region ?_
      refine WL.op rfl (opW.moveV (v := sb.v) rfl ?_)
      refine WL.op rfl (opW.moveV (v := sa.v) rfl ?_)
      refine WL.op rfl (opW.buildSl hS (([sb, sa] : List SlV)) [sb.v, sa.v] rfl rfl rfl rfl (by decide) ?_)
      intro b31 w hw hS
      refine WL.op rfl (opW.assignV (v := .slice (some ⟨b31, 0, none⟩) 2 2) rfl ?_)
      refine WL.nil ?_
      refine thenQ_n ?_
      first | exact ⟨(.slice (some ⟨b31, 0, none⟩) 2 2), [sb, sa], [lb, la], ⟨rfl, rfl, rfl, rfl, rfl, rfl, trivial⟩, (hS.sub (by repeat (first | with_reducible exact List.nil_sublist _ | with_reducible exact List.Sublist.refl _ | with_reducible refine List.Sublist.cons₂ _ ?_ | with_reducible refine List.Sublist.cons _ ?_)) : St w0 [ownE (.slice (some ⟨b31, 0, none⟩) [sb, sa].length [sb, sa].length) 40 [sb, sa], ownE sb.v 5 lb, ownE sa.v 5 la] _), .inr ⟨rfl, rfl⟩⟩ | exact ⟨(.slice (some ⟨b27, 0, none⟩) 2 2), [sa, sb], [la, lb], ⟨rfl, rfl, rfl, rfl, rfl, rfl, trivial⟩, (hS.sub (by repeat (first | with_reducible exact List.nil_sublist _ | with_reducible exact List.Sublist.refl _ | with_reducible refine List.Sublist.cons₂ _ ?_ | with_reducible refine List.Sublist.cons _ ?_)) : St w0 [ownE (.slice (some ⟨b27, 0, none⟩) [sa, sb].length [sa, sb].length) 40 [sa, sb], ownE sb.v 5 lb, ownE sa.v 5 la] _), .inl ⟨rfl, rfl⟩⟩
    ·
      have hr0 := hc0
      try simp only [decide_eq_true_eq, decide_eq_false_iff_not, Bool.and_eq_true, Bool.or_eq_true, Bool.and_eq_false_iff, Bool.or_eq_false_iff, Bool.not_eq_true', Bool.not_eq_false', Int.not_lt, Int.not_le] at hc0
      refine WC.skip ?_
      refine thenQ_n ?_
      first | exact ⟨(.slice (some ⟨b31, 0, none⟩) 2 2), [sb, sa], [lb, la], ⟨rfl, rfl, rfl, rfl, rfl, rfl, trivial⟩, (hS.sub (by repeat (first | with_reducible exact List.nil_sublist _ | with_reducible exact List.Sublist.refl _ | with_reducible refine List.Sublist.cons₂ _ ?_ | with_reducible refine List.Sublist.cons _ ?_)) : St w0 [ownE (.slice (some ⟨b31, 0, none⟩) [sb, sa].length [sb, sa].length) 40 [sb, sa], ownE sb.v 5 lb, ownE sa.v 5 la] _), .inr ⟨rfl, rfl⟩⟩ | exact ⟨(.slice (some ⟨b27, 0, none⟩) 2 2), [sa, sb], [la, lb], ⟨rfl, rfl, rfl, rfl, rfl, rfl, trivial⟩, (hS.sub (by repeat (first | with_reducible exact List.nil_sublist _ | with_reducible exact List.Sublist.refl _ | with_reducible refine List.Sublist.cons₂ _ ?_ | with_reducible refine List.Sublist.cons _ ?_)) : St w0 [ownE (.slice (some ⟨b27, 0, none⟩) [sa, sb].length [sa, sb].length) 40 [sa, sb], ownE sb.v 5 lb, ownE sa.v 5 la] _), .inl ⟨rfl, rfl⟩⟩
  ·
    rintro f w ⟨vl, X, dX, hfit, hS, hxor⟩
    refine WC.fits _ hfit (fun g => ?_)
    clear hfit
    refine WC.seq (fun K7 hK7 => ?_)
    refine WC.region ?_
    have hX2 : X.length = 2 := by rcases hxor with ⟨rfl, _⟩ | ⟨rfl, _⟩ <;> rfl
    have hXd : ∀ w, SlR w sa.v la → SlR w sb.v lb → DIs w (wIns X) (dX ++ [[], []]) := by
      intro w h1 h2
      rcases hxor with ⟨rfl, rfl⟩ | ⟨rfl, rfl⟩
      · exact wIns_is (wi_is2 h1 h2)
      · exact wIns_is (wi_is2 h2 h1)
    have hXb : Both (stF kL (wIns X) (dX ++ [[], []])) u p := by
      rcases hxor with ⟨rfl, rfl⟩ | ⟨rfl, rfl⟩
      · exact both_with (k1 := 0) (k2 := 1) rfl hta htb (by decide)
      · have := both_with (xs := [sb, sa]) (k1 := 1) (k2 := 0) rfl htb hta (by decide)
        exact ⟨this.2.1, this.1, this.2.2⟩
    have hXl : (wIns X).length = (dX ++ [[], []]).length := by rcases hxor with ⟨rfl, rfl⟩ | ⟨rfl, rfl⟩ <;> rfl
    have hX4 : (wIns X).length = 4 := by simp [wIns, hX2]
    refine WL.op rfl (opW.moveV (v := vl) rfl ?_)
    refine WL.op rfl (opW.call (with_ok _ _ _ vl X hS (fun w h => h.sl (v := vl) (xs := X) (by first | exact .here | exact .there (.here) | exact .there (.there (.here)) | exact .there (.there (.there (.here))) | exact .there (.there (.there (.there (.here)))) | exact .there (.there (.there (.there (.there (.here))))) | exact .there (.there (.there (.there (.there (.there (.here)))))) | exact .there (.there (.there (.there (.there (.there (.there (.here))))))) | exact .there (.there (.there (.there (.there (.there (.there (.there (.here)))))))) | exact .there (.there (.there (.there (.there (.there (.there (.there (.there (.here))))))))) | exact .there (.there (.there (.there (.there (.there (.there (.there (.there (.there (.here)))))))))) | exact .there (.there (.there (.there (.there (.there (.there (.there (.there (.there (.there (.here))))))))))) | exact .there (.there (.there (.there (.there (.there (.there (.there (.there (.there (.there (.there (.here)))))))))))))) (by omega)) rfl ?_)
    rintro _ w ⟨kv, iv0, rfl, hS⟩
    refine WL.op rfl (opW.allocA hS ?_)
    intro b11 w _ hS
    refine WL.op0 (opW.storeE hS rfl rfl (by first | exact .here | exact .there (.here) | exact .there (.there (.here)) | exact .there (.there (.there (.here))) | exact .there (.there (.there (.there (.here)))) | exact .there (.there (.there (.there (.there (.here))))) | exact .there (.there (.there (.there (.there (.there (.here)))))) | exact .there (.there (.there (.there (.there (.there (.there (.here))))))) | exact .there (.there (.there (.there (.there (.there (.there (.there (.here)))))))) | exact .there (.there (.there (.there (.there (.there (.there (.there (.there (.here))))))))) | exact .there (.there (.there (.there (.there (.there (.there (.there (.there (.there (.here)))))))))) | exact .there (.there (.there (.there (.there (.there (.there (.there (.there (.there (.there (.here))))))))))) | exact .there (.there (.there (.there (.there (.there (.there (.there (.there (.there (.there (.there (.here))))))))))))) (by first | rfl | exact Enc.size_eq _) ?_)
    intro w hS; replace hS := hS _ (by first | exact .here | exact .there (.here) | exact .there (.there (.here)) | exact .there (.there (.there (.here))) | exact .there (.there (.there (.there (.here)))) | exact .there (.there (.there (.there (.there (.here))))) | exact .there (.there (.there (.there (.there (.there (.here)))))) | exact .there (.there (.there (.there (.there (.there (.there (.here))))))) | exact .there (.there (.there (.there (.there (.there (.there (.there (.here)))))))) | exact .there (.there (.there (.there (.there (.there (.there (.there (.there (.here))))))))) | exact .there (.there (.there (.there (.there (.there (.there (.there (.there (.there (.here)))))))))) | exact .there (.there (.there (.there (.there (.there (.there (.there (.there (.there (.there (.here))))))))))) | exact .there (.there (.there (.there (.there (.there (.there (.there (.there (.there (.there (.there (.here)))))))))))))
    refine WL.nil ?_
    refine thenQ_n (hK7 _ _ ?_)
    refine WC.seq (fun K8 hK8 => ?_)
    refine WC.seq (fun K9 hK9 => ?_)
    refine WC.region ?_
    refine WL.op rfl (opW.assignI rfl ?_)
    refine WL.nil ?_
    refine thenQ_n (hK9 _ _ ?_)
    refine WC.block ?_
    refine WC.loop (fun q f w => ∃ (k : Nat) (iv : SlV), Fits [(0, .int .u32 (u : Int)), (1, .int .u64 ((p : Nat) : Int)), (2, .int .u8 (o : Int)), (8, sa.v), (9, sb.v), (11, .pointer (some ⟨b11, 0, none⟩)), (12, .int .i64 (k : Int))] f ∧ St w0 [ownE iv.v 45 (wIns X ++ othL sa k), blkE b11 (Enc.enc (msg kv iv)) 30, ownE kv.v 48 kL, ownE sb.v 5 lb, ownE sa.v 5 la] w ∧ k ≤ o % 20 ∧ q = o % 20 - k) (o % 20) ?_ ?_
    ·
      have h0 : St w0 [ownE iv0.v 45 (wIns X), blkE b11 (Enc.enc (msg kv iv0)) 30, ownE kv.v 48 kL, ownE sb.v 5 lb, ownE sa.v 5 la] _ := (hS.pick (e := ownE iv0.v 45 (wIns X)) (by first | exact .here | exact .there (.here) | exact .there (.there (.here)) | exact .there (.there (.there (.here))) | exact .there (.there (.there (.there (.here)))) | exact .there (.there (.there (.there (.there (.here))))) | exact .there (.there (.there (.there (.there (.there (.here)))))) | exact .there (.there (.there (.there (.there (.there (.there (.here))))))) | exact .there (.there (.there (.there (.there (.there (.there (.there (.here)))))))) | exact .there (.there (.there (.there (.there (.there (.there (.there (.there (.here))))))))) | exact .there (.there (.there (.there (.there (.there (.there (.there (.there (.there (.here)))))))))) | exact .there (.there (.there (.there (.there (.there (.there (.there (.there (.there (.there (.here))))))))))) | exact .there (.there (.there (.there (.there (.there (.there (.there (.there (.there (.there (.there (.here)))))))))))))).sub (by repeat (first | with_reducible exact List.nil_sublist _ | with_reducible exact List.Sublist.refl _ | with_reducible refine List.Sublist.cons₂ _ ?_ | with_reducible refine List.Sublist.cons _ ?_))
      exact ⟨0, iv0, ⟨rfl, rfl, rfl, rfl, rfl, rfl, rfl, trivial⟩, (by rw [show othL sa 0 = [] from rfl, List.append_nil]; exact h0), Nat.zero_le _, rfl⟩
    ·
      rintro q f w ⟨k, iv, hfit, hS, hk0, hmm⟩
      refine WC.fits _ hfit (fun g => ?_)
      clear hfit
      refine WC.seq (fun K10 hK10 => ?_)
      refine WC.seq (fun K11 hK11 => ?_)
      refine WC.region ?_
      refine WL.op rfl (opW.moveI rfl ?_)
      refine WL.op rfl (opW.moveI rfl ?_)
      refine WL.op rfl (opW.rem rfl rfl (by omega) (tmod_nat o 20) ?_)
      refine WL.op rfl (opW.conv rfl (wrap_i64 (by omega)) ?_)
      refine WL.op rfl (opW.lss rfl rfl ?_)
      refine WL.nil ?_
      refine thenQ_n (hK11 _ _ ?_)
      refine WC.cond _ rfl (fun hc1 => ?_) (fun hc1 => ?_)
      ·
        have hr1 := hc1
        try simp only [decide_eq_true_eq, decide_eq_false_iff_not, Bool.and_eq_true, Bool.or_eq_true, Bool.and_eq_false_iff, Bool.or_eq_false_iff, Bool.not_eq_true', Bool.not_eq_false', Int.not_lt, Int.not_le] at hc1
        have hkl : k < o % 20 := by omega
        have h3 : k % 3 < ([0, 2, 9] : List UInt8).length := by simp only [List.length_cons, List.length_nil]; omega
        have hol := othL_len sa k
        refine WC.skip ?_
        refine thenQ_n (hK10 _ _ ?_)
        refine WC.seq (fun K12 hK12 => ?_)
        refine WC.block ?_
        refine WC.draw 10 (.look 0 (.look 1 (.look 3 (.look 4 (.look 7 (.one 2 (.one 5 (.one 6 (.look 8 (.one 9 (.one 10 (.one 11 (.one 12 .nil))))))))))))) (by kernel_rfl) (fun _ _ _ h => h) (fun w1 hw1 => ?_)
        replace hS := hS.bel hw1
        have hS1 := hS
        have hT := St.start w1
        refine ML.look rfl rfl rfl (fun w hw => (by have hS := hS1.bel hw; exact opW.fieldAddrB rfl ⟨rfl, rfl⟩)) ?_
        refine ML.look rfl rfl rfl (fun w hw => (by have hS := hS1.bel hw; exact opW.loadV rfl (hS.ld1 (by first | exact .here | exact .there (.here) | exact .there (.there (.here)) | exact .there (.there (.there (.here))) | exact .there (.there (.there (.there (.here)))) | exact .there (.there (.there (.there (.there (.here))))) | exact .there (.there (.there (.there (.there (.there (.here)))))) | exact .there (.there (.there (.there (.there (.there (.there (.here))))))) | exact .there (.there (.there (.there (.there (.there (.there (.there (.here)))))))) | exact .there (.there (.there (.there (.there (.there (.there (.there (.there (.here))))))))) | exact .there (.there (.there (.there (.there (.there (.there (.there (.there (.there (.here)))))))))) | exact .there (.there (.there (.there (.there (.there (.there (.there (.there (.there (.there (.here))))))))))) | exact .there (.there (.there (.there (.there (.there (.there (.there (.there (.there (.there (.there (.here))))))))))))) (Message.at_instrs (msg kv iv))) ⟨rfl, rfl⟩)) ?_
        refine ML.look rfl rfl rfl (fun w hw => (by have hS := hS1.bel hw; exact opW.moveI rfl ⟨rfl, rfl⟩)) ?_
        refine ML.look rfl rfl rfl (fun w hw => (by have hS := hS1.bel hw; exact opW.rem rfl rfl (by omega) (tmod_nat k 3) ⟨rfl, rfl⟩)) ?_
        refine ML.look rfl rfl rfl (fun w hw => (by have hS := hS1.bel hw; exact opW.moveV (v := sa.v) rfl ⟨rfl, rfl⟩)) ?_
        refine ML.one rfl rfl rfl (opW.buildSl hT (([0, 2, 9] : List UInt8)) [.int .u8 0, .int .u8 2, .int .u8 9] rfl rfl rfl rfl (by decide) ?_)
        intro b43 w hw hT
        refine ⟨hT.old, ?_⟩
        have hS := hS1.merge hT
        try simp only [List.cons_append, List.nil_append] at hS
        refine ML.one rfl rfl rfl (opW.idxV rfl (hS.sl (v := (.slice (some ⟨b43, 0, none⟩) 3 3)) (xs := ([0, 2, 9] : List UInt8)) (by first | exact .here | exact .there (.here) | exact .there (.there (.here)) | exact .there (.there (.there (.here))) | exact .there (.there (.there (.there (.here)))) | exact .there (.there (.there (.there (.there (.here))))) | exact .there (.there (.there (.there (.there (.there (.here)))))) | exact .there (.there (.there (.there (.there (.there (.there (.here))))))) | exact .there (.there (.there (.there (.there (.there (.there (.there (.here)))))))) | exact .there (.there (.there (.there (.there (.there (.there (.there (.there (.here))))))))) | exact .there (.there (.there (.there (.there (.there (.there (.there (.there (.there (.here)))))))))) | exact .there (.there (.there (.there (.there (.there (.there (.there (.there (.there (.there (.here))))))))))) | exact .there (.there (.there (.there (.there (.there (.there (.there (.there (.there (.there (.there (.here)))))))))))))) rfl (by simp only [List.length_cons, List.length_nil]; omega) ?_)
        refine ⟨hT.old, ?_⟩
        have hS := hS1.merge hT
        try simp only [List.cons_append, List.nil_append] at hS
        refine ML.one rfl rfl rfl (opW.loadV rfl ((by have h2 := (hS.sl (v := (.slice (some ⟨b43, 0, none⟩) 3 3)) (xs := ([0, 2, 9] : List UInt8)) (by first | exact .here | exact .there (.here) | exact .there (.there (.here)) | exact .there (.there (.there (.here))) | exact .there (.there (.there (.there (.here)))) | exact .there (.there (.there (.there (.there (.here))))) | exact .there (.there (.there (.there (.there (.there (.here)))))) | exact .there (.there (.there (.there (.there (.there (.there (.here))))))) | exact .there (.there (.there (.there (.there (.there (.there (.there (.here)))))))) | exact .there (.there (.there (.there (.there (.there (.there (.there (.there (.here))))))))) | exact .there (.there (.there (.there (.there (.there (.there (.there (.there (.there (.here)))))))))) | exact .there (.there (.there (.there (.there (.there (.there (.there (.there (.there (.there (.here))))))))))) | exact .there (.there (.there (.there (.there (.there (.there (.there (.there (.there (.there (.there (.here)))))))))))))).isPt (i := k % 3) h3; rw [show ([0, 2, 9] : List UInt8)[k % 3] = pr3 k by simp only [pr3, List.getD, List.getElem?_eq_getElem h3, Option.getD_some]] at h2; exact h2.ld rfl)) ?_)
        refine ⟨hT.old, ?_⟩
        have hS := hS1.merge hT
        try simp only [List.cons_append, List.nil_append] at hS
        refine ML.look rfl rfl rfl (fun w hw => (by have hS := hS1.bel hw; exact opW.buildE (r := ((wp (pr3 k) sa) : Instr)) (ps := Instr.parts ((wp (pr3 k) sa) : Instr)) (Instr.enc_eq _) (by first | rfl | (simp only [sysK, budK, msg, k7, k8, wi, i2, wp, enc_vset, enc_vz, Header.enc_eq, Header.parts, Instr.enc_eq, Instr.parts, Lookup.enc_eq, Lookup.parts, Message.enc_eq, Message.parts, Budget.enc_eq, Budget.parts]; rfl)) (by (repeat' (first | exact trivial | refine And.intro ?_ ?_)) <;> first | rfl | exact Enc.size_eq _ | (simp; done)) ⟨rfl, rfl⟩)) ?_
        refine ML.one rfl rfl rfl (opW.buildSl hT (([wp (pr3 k) sa] : List Instr)) [.agg (Enc.enc (wp (pr3 k) sa))] rfl rfl rfl rfl (by decide) ?_)
        intro b50 w hw hT
        refine ⟨hT.old, ?_⟩
        have hS := hS1.merge hT
        try simp only [List.cons_append, List.nil_append] at hS
        refine ML.put1 rfl rfl rfl rfl (opW.appendOwn (α := Instr) rfl hS rfl (by first | exact .here | exact .there (.here) | exact .there (.there (.here)) | exact .there (.there (.there (.here))) | exact .there (.there (.there (.there (.here)))) | exact .there (.there (.there (.there (.there (.here))))) | exact .there (.there (.there (.there (.there (.there (.here)))))) | exact .there (.there (.there (.there (.there (.there (.there (.here))))))) | exact .there (.there (.there (.there (.there (.there (.there (.there (.here)))))))) | exact .there (.there (.there (.there (.there (.there (.there (.there (.there (.here))))))))) | exact .there (.there (.there (.there (.there (.there (.there (.there (.there (.there (.here)))))))))) | exact .there (.there (.there (.there (.there (.there (.there (.there (.there (.there (.there (.here))))))))))) | exact .there (.there (.there (.there (.there (.there (.there (.there (.there (.there (.there (.there (.here))))))))))))) (hS.sl (by first | exact .here | exact .there (.here) | exact .there (.there (.here)) | exact .there (.there (.there (.here))) | exact .there (.there (.there (.there (.here)))) | exact .there (.there (.there (.there (.there (.here))))) | exact .there (.there (.there (.there (.there (.there (.here)))))) | exact .there (.there (.there (.there (.there (.there (.there (.here))))))) | exact .there (.there (.there (.there (.there (.there (.there (.there (.here)))))))) | exact .there (.there (.there (.there (.there (.there (.there (.there (.there (.here))))))))) | exact .there (.there (.there (.there (.there (.there (.there (.there (.there (.there (.here)))))))))) | exact .there (.there (.there (.there (.there (.there (.there (.there (.there (.there (.there (.here))))))))))) | exact .there (.there (.there (.there (.there (.there (.there (.there (.there (.there (.there (.there (.here)))))))))))))) (by simp only [List.length_append, List.length_cons, List.length_nil, leB_len]; omega) (by simp only [maxLen, List.length_append, List.length_cons, List.length_nil, leB_len]; omega) ?_)
        intro v51 w hS; replace hS := hS _ (by first | exact .here | exact .there (.here) | exact .there (.there (.here)) | exact .there (.there (.there (.here))) | exact .there (.there (.there (.there (.here)))) | exact .there (.there (.there (.there (.there (.here))))) | exact .there (.there (.there (.there (.there (.there (.here)))))) | exact .there (.there (.there (.there (.there (.there (.there (.here))))))) | exact .there (.there (.there (.there (.there (.there (.there (.there (.here)))))))) | exact .there (.there (.there (.there (.there (.there (.there (.there (.there (.here))))))))) | exact .there (.there (.there (.there (.there (.there (.there (.there (.there (.there (.here)))))))))) | exact .there (.there (.there (.there (.there (.there (.there (.there (.there (.there (.there (.here))))))))))) | exact .there (.there (.there (.there (.there (.there (.there (.there (.there (.there (.there (.there (.here)))))))))))))
        obtain ⟨s51, rfl⟩ := (hS.sl (v := v51) (xs := (wIns X ++ othL sa k) ++ [wp (pr3 k) sa]) (by first | exact .here | exact .there (.here) | exact .there (.there (.here)) | exact .there (.there (.there (.here))) | exact .there (.there (.there (.there (.here)))) | exact .there (.there (.there (.there (.there (.here))))) | exact .there (.there (.there (.there (.there (.there (.here)))))) | exact .there (.there (.there (.there (.there (.there (.there (.here))))))) | exact .there (.there (.there (.there (.there (.there (.there (.there (.here)))))))) | exact .there (.there (.there (.there (.there (.there (.there (.there (.there (.here))))))))) | exact .there (.there (.there (.there (.there (.there (.there (.there (.there (.there (.here)))))))))) | exact .there (.there (.there (.there (.there (.there (.there (.there (.there (.there (.there (.here))))))))))) | exact .there (.there (.there (.there (.there (.there (.there (.there (.there (.there (.there (.there (.here)))))))))))))).asV
        refine ML.put1 rfl rfl rfl rfl (opW.fieldAddrB rfl ?_)
        refine ML.put0 rfl rfl rfl (opW.storeF (v := s51.v) (sz := 1) (cs' := Enc.enc (msg kv s51)) hS rfl rfl (by first | exact .here | exact .there (.here) | exact .there (.there (.here)) | exact .there (.there (.there (.here))) | exact .there (.there (.there (.there (.here)))) | exact .there (.there (.there (.there (.there (.here))))) | exact .there (.there (.there (.there (.there (.there (.here)))))) | exact .there (.there (.there (.there (.there (.there (.there (.here))))))) | exact .there (.there (.there (.there (.there (.there (.there (.there (.here)))))))) | exact .there (.there (.there (.there (.there (.there (.there (.there (.there (.here))))))))) | exact .there (.there (.there (.there (.there (.there (.there (.there (.there (.there (.here)))))))))) | exact .there (.there (.there (.there (.there (.there (.there (.there (.there (.there (.there (.here))))))))))) | exact .there (.there (.there (.there (.there (.there (.there (.there (.there (.there (.there (.there (.here))))))))))))) rfl (by rw [Enc.size_eq]; decide) (Enc.one s51) (Message.set_instrs (msg kv iv) s51) ?_)
        intro w hS; replace hS := hS _ (by first | exact .here | exact .there (.here) | exact .there (.there (.here)) | exact .there (.there (.there (.here))) | exact .there (.there (.there (.there (.here)))) | exact .there (.there (.there (.there (.there (.here))))) | exact .there (.there (.there (.there (.there (.there (.here)))))) | exact .there (.there (.there (.there (.there (.there (.there (.here))))))) | exact .there (.there (.there (.there (.there (.there (.there (.there (.here)))))))) | exact .there (.there (.there (.there (.there (.there (.there (.there (.there (.here))))))))) | exact .there (.there (.there (.there (.there (.there (.there (.there (.there (.there (.here)))))))))) | exact .there (.there (.there (.there (.there (.there (.there (.there (.there (.there (.there (.here))))))))))) | exact .there (.there (.there (.there (.there (.there (.there (.there (.there (.there (.there (.there (.here)))))))))))))
        refine ML.nil ?_
        refine blockQ_n ?_
        refine thenQ_n (hK12 _ _ ?_)
        refine WC.region ?_
        refine WL.op rfl (opW.moveI rfl ?_)
        refine WL.op rfl (opW.add rfl rfl (wrap_i64 (by omega)) ?_)
        refine WL.op rfl (opW.assignI rfl ?_)
        refine WL.nil ?_
        refine thenQ_n ?_
        exact ⟨o % 20 - (k + 1), by omega, k + 1, s51, ⟨rfl, rfl, rfl, rfl, rfl, rfl, congrArg (Value.int .i64) (by omega), trivial⟩, (by rw [othL_succ, ← List.append_assoc]; exact hS.sub (by repeat (first | with_reducible exact List.nil_sublist _ | with_reducible exact List.Sublist.refl _ | with_reducible refine List.Sublist.cons₂ _ ?_ | with_reducible refine List.Sublist.cons _ ?_))), by omega, rfl⟩
      ·
        have hr1 := hc1
        try simp only [decide_eq_true_eq, decide_eq_false_iff_not, Bool.and_eq_true, Bool.or_eq_true, Bool.and_eq_false_iff, Bool.or_eq_false_iff, Bool.not_eq_true', Bool.not_eq_false', Int.not_lt, Int.not_le] at hc1
        obtain rfl : k = o % 20 := by omega
        have hol := othL_len sa (o % 20)
        have hLb := both_oth hXl sa la hXb (o % 20)
        have hLd : ∀ w, SlR w sa.v la → SlR w sb.v lb → DIs w (wIns X ++ othL sa (o % 20)) ((dX ++ [[], []]) ++ List.replicate (o % 20) la) := fun w h1 h2 => (hXd w h1 h2).append (othL_is h1 _)
        have hLl : (wIns X ++ othL sa (o % 20)).length = ((dX ++ [[], []]) ++ List.replicate (o % 20) la).length := by rw [List.length_append, List.length_append, hXl, hol, List.length_replicate]
        have hLn : (wIns X ++ othL sa (o % 20)).length ≤ 30 := by rw [List.length_append]; omega
        generalize wIns X ++ othL sa (o % 20) = L at *
        generalize (dX ++ [[], []]) ++ List.replicate (o % 20) la = D at *
        have hB1 := both_bud hLb
        obtain ⟨hB2, hs2⟩ := both_more (x := wp 1 sb) (kn := 1) hLl hLb rfl htb (.inr rfl)
        obtain ⟨hB3, hs3⟩ := bud_still (x := wp 1 sa) (by rw [List.length_append, List.length_append, hLl]; rfl) hs2 rfl la
        obtain ⟨hB4, hs4⟩ := bud_still (x := wp 1 ⟨none, 0, 0⟩) (by simp only [List.length_append, hLl]; rfl) hs3 rfl []
        rw [hB3, hB2, List.append_assoc, List.append_assoc (D ++ [lb])] at hB4
        replace hB4 : budF kL ((L ++ [wp 1 sb]) ++ [wp 1 sa, wp 1 ⟨none, 0, 0⟩]) ((D ++ [lb]) ++ [la, []]) = (⟨min u 1400000, p, (L.length : Int)⟩ : Budget) := hB4
        refine WC.exit ?_
        refine thenQ_e ?_
        refine thenQ_e ?_
        refine blockQ_hit ?_
        refine thenQ_n (hK8 _ _ ?_)
        refine WC.seq (fun K13 hK13 => ?_)
        refine WC.region ?_
        refine WL.op rfl (opW.moveI rfl ?_)
        refine WL.op rfl (opW.conv rfl (wrap_u64 (by omega)) ?_)
        refine WL.op rfl (opW.minI rfl rfl (minN2 u 1400000) ?_)
        refine WL.op rfl (opW.moveI rfl ?_)
        refine WL.op rfl (opW.buildE (r := ((⟨min u 1400000, p, -1⟩ : Budget) : Budget)) (ps := Budget.parts ((⟨min u 1400000, p, -1⟩ : Budget) : Budget)) (Budget.enc_eq _) (by first | rfl | (simp only [sysK, budK, msg, k7, k8, wi, i2, wp, enc_vset, enc_vz, Header.enc_eq, Header.parts, Instr.enc_eq, Instr.parts, Lookup.enc_eq, Lookup.parts, Message.enc_eq, Message.parts, Budget.enc_eq, Budget.parts]; rfl)) (by (repeat' (first | exact trivial | refine And.intro ?_ ?_)) <;> first | rfl | exact Enc.size_eq _ | (simp; done)) ?_)
        refine WL.op rfl (opW.allocA hS ?_)
        intro b13 w _ hS
        refine WL.op0 (opW.storeE hS rfl rfl (by first | exact .here | exact .there (.here) | exact .there (.there (.here)) | exact .there (.there (.there (.here))) | exact .there (.there (.there (.there (.here)))) | exact .there (.there (.there (.there (.there (.here))))) | exact .there (.there (.there (.there (.there (.there (.here)))))) | exact .there (.there (.there (.there (.there (.there (.there (.here))))))) | exact .there (.there (.there (.there (.there (.there (.there (.there (.here)))))))) | exact .there (.there (.there (.there (.there (.there (.there (.there (.there (.here))))))))) | exact .there (.there (.there (.there (.there (.there (.there (.there (.there (.there (.here)))))))))) | exact .there (.there (.there (.there (.there (.there (.there (.there (.there (.there (.there (.here))))))))))) | exact .there (.there (.there (.there (.there (.there (.there (.there (.there (.there (.there (.there (.here))))))))))))) (by first | rfl | exact Enc.size_eq _) ?_)
        intro w hS; replace hS := hS _ (by first | exact .here | exact .there (.here) | exact .there (.there (.here)) | exact .there (.there (.there (.here))) | exact .there (.there (.there (.there (.here)))) | exact .there (.there (.there (.there (.there (.here))))) | exact .there (.there (.there (.there (.there (.there (.here)))))) | exact .there (.there (.there (.there (.there (.there (.there (.here))))))) | exact .there (.there (.there (.there (.there (.there (.there (.there (.here)))))))) | exact .there (.there (.there (.there (.there (.there (.there (.there (.there (.here))))))))) | exact .there (.there (.there (.there (.there (.there (.there (.there (.there (.there (.here)))))))))) | exact .there (.there (.there (.there (.there (.there (.there (.there (.there (.there (.there (.here))))))))))) | exact .there (.there (.there (.there (.there (.there (.there (.there (.there (.there (.there (.there (.here)))))))))))))
        refine WL.nil ?_
        refine thenQ_n (hK13 _ _ ?_)
        refine WC.seq (fun K14 hK14 => ?_)
        refine WC.seq (fun K15 hK15 => ?_)
        refine WC.draw 4 (.look 0 (.look 2 (.one 1 (.look 3 .nil)))) (by kernel_rfl) (fun _ _ _ h => h) (fun w1 hw1 => ?_)
        replace hS := hS.bel hw1
        have hS1 := hS
        have hT := St.start w1
        refine ML.look rfl rfl rfl (fun w hw => (by have hS := hS1.bel hw; exact opW.loadV rfl (hS.ldA (cs := Enc.enc (msg kv iv)) (by first | exact .here | exact .there (.here) | exact .there (.there (.here)) | exact .there (.there (.there (.here))) | exact .there (.there (.there (.there (.here)))) | exact .there (.there (.there (.there (.there (.here))))) | exact .there (.there (.there (.there (.there (.there (.here)))))) | exact .there (.there (.there (.there (.there (.there (.there (.here))))))) | exact .there (.there (.there (.there (.there (.there (.there (.there (.here)))))))) | exact .there (.there (.there (.there (.there (.there (.there (.there (.there (.here))))))))) | exact .there (.there (.there (.there (.there (.there (.there (.there (.there (.there (.here)))))))))) | exact .there (.there (.there (.there (.there (.there (.there (.there (.there (.there (.there (.here))))))))))) | exact .there (.there (.there (.there (.there (.there (.there (.there (.there (.there (.there (.there (.here))))))))))))) (Enc.size_eq _)) ⟨rfl, rfl⟩)) ?_
        refine ML.look rfl rfl rfl (fun w hw => (by have hS := hS1.bel hw; exact opW.loadV rfl (hS.ldA (cs := Enc.enc (⟨min u 1400000, p, -1⟩ : Budget)) (by first | exact .here | exact .there (.here) | exact .there (.there (.here)) | exact .there (.there (.there (.here))) | exact .there (.there (.there (.there (.here)))) | exact .there (.there (.there (.there (.there (.here))))) | exact .there (.there (.there (.there (.there (.there (.here)))))) | exact .there (.there (.there (.there (.there (.there (.there (.here))))))) | exact .there (.there (.there (.there (.there (.there (.there (.there (.here)))))))) | exact .there (.there (.there (.there (.there (.there (.there (.there (.there (.here))))))))) | exact .there (.there (.there (.there (.there (.there (.there (.there (.there (.there (.here)))))))))) | exact .there (.there (.there (.there (.there (.there (.there (.there (.there (.there (.there (.here))))))))))) | exact .there (.there (.there (.there (.there (.there (.there (.there (.there (.there (.there (.there (.here))))))))))))) (Enc.size_eq _)) ⟨rfl, rfl⟩)) ?_
        refine ML.one rfl rfl rfl (opW.call (of_ok _ (msg kv iv) kL L (fun i => (D).getD i []) (hld.bel hS.old) (hS.sl (v := kv.v) (xs := kL) (by first | exact .here | exact .there (.here) | exact .there (.there (.here)) | exact .there (.there (.there (.here))) | exact .there (.there (.there (.there (.here)))) | exact .there (.there (.there (.there (.there (.here))))) | exact .there (.there (.there (.there (.there (.there (.here)))))) | exact .there (.there (.there (.there (.there (.there (.there (.here))))))) | exact .there (.there (.there (.there (.there (.there (.there (.there (.here)))))))) | exact .there (.there (.there (.there (.there (.there (.there (.there (.there (.here))))))))) | exact .there (.there (.there (.there (.there (.there (.there (.there (.there (.there (.here)))))))))) | exact .there (.there (.there (.there (.there (.there (.there (.there (.there (.there (.there (.here))))))))))) | exact .there (.there (.there (.there (.there (.there (.there (.there (.there (.there (.there (.there (.here)))))))))))))) (hS.sl (v := iv.v) (xs := L) (by first | exact .here | exact .there (.here) | exact .there (.there (.here)) | exact .there (.there (.there (.here))) | exact .there (.there (.there (.there (.here)))) | exact .there (.there (.there (.there (.there (.here))))) | exact .there (.there (.there (.there (.there (.there (.here)))))) | exact .there (.there (.there (.there (.there (.there (.there (.here))))))) | exact .there (.there (.there (.there (.there (.there (.there (.there (.here)))))))) | exact .there (.there (.there (.there (.there (.there (.there (.there (.there (.here))))))))) | exact .there (.there (.there (.there (.there (.there (.there (.there (.there (.there (.here)))))))))) | exact .there (.there (.there (.there (.there (.there (.there (.there (.there (.there (.there (.here))))))))))) | exact .there (.there (.there (.there (.there (.there (.there (.there (.there (.there (.there (.there (.here)))))))))))))) (by (try simp only [List.length_append, List.length_cons, List.length_nil]); omega) (hLd _ (hS.sl (v := sa.v) (xs := la) (by first | exact .here | exact .there (.here) | exact .there (.there (.here)) | exact .there (.there (.there (.here))) | exact .there (.there (.there (.there (.here)))) | exact .there (.there (.there (.there (.there (.here))))) | exact .there (.there (.there (.there (.there (.there (.here)))))) | exact .there (.there (.there (.there (.there (.there (.there (.here))))))) | exact .there (.there (.there (.there (.there (.there (.there (.there (.here)))))))) | exact .there (.there (.there (.there (.there (.there (.there (.there (.there (.here))))))))) | exact .there (.there (.there (.there (.there (.there (.there (.there (.there (.there (.here)))))))))) | exact .there (.there (.there (.there (.there (.there (.there (.there (.there (.there (.there (.here))))))))))) | exact .there (.there (.there (.there (.there (.there (.there (.there (.there (.there (.there (.there (.here)))))))))))))) (hS.sl (v := sb.v) (xs := lb) (by first | exact .here | exact .there (.here) | exact .there (.there (.here)) | exact .there (.there (.there (.here))) | exact .there (.there (.there (.there (.here)))) | exact .there (.there (.there (.there (.there (.here))))) | exact .there (.there (.there (.there (.there (.there (.here)))))) | exact .there (.there (.there (.there (.there (.there (.there (.here))))))) | exact .there (.there (.there (.there (.there (.there (.there (.there (.here)))))))) | exact .there (.there (.there (.there (.there (.there (.there (.there (.there (.here))))))))) | exact .there (.there (.there (.there (.there (.there (.there (.there (.there (.there (.here)))))))))) | exact .there (.there (.there (.there (.there (.there (.there (.there (.there (.there (.there (.here))))))))))) | exact .there (.there (.there (.there (.there (.there (.there (.there (.there (.there (.there (.there (.here))))))))))))))).data) rfl ?_)
        rintro _ w ⟨rfl, hw⟩; replace hT := hT.bel hw
        rw [stF_eq]
        rw [show budR (stF kL L (D)) = budF kL L (D) from rfl]
        rw [hB1]
        refine ⟨hT.old, ?_⟩
        have hS := hS1.merge hT
        try simp only [List.cons_append, List.nil_append] at hS
        refine ML.look rfl rfl rfl (fun w hw => (by have hS := hS1.bel hw; exact opW.boolF (by simp) (opW.neqE (a := (⟨min u 1400000, p, -1⟩ : Budget)) (b := (⟨min u 1400000, p, -1⟩ : Budget)) rfl rfl ⟨rfl, rfl⟩) ⟨rfl, rfl⟩)) ?_
        refine ML.nil ?_
        refine thenQ_n (hK15 _ _ ?_)
        refine WC.cond _ rfl (fun hc2 => ?_) (fun hc2 => ?_)
        ·
          have hr2 := hc2
          try simp only [decide_eq_true_eq, decide_eq_false_iff_not, Bool.and_eq_true, Bool.or_eq_true, Bool.and_eq_false_iff, Bool.or_eq_false_iff, Bool.not_eq_true', Bool.not_eq_false', Int.not_lt, Int.not_le] at hc2
          simp at hr2
        ·
          have hr2 := hc2
          try simp only [decide_eq_true_eq, decide_eq_false_iff_not, Bool.and_eq_true, Bool.or_eq_true, Bool.and_eq_false_iff, Bool.or_eq_false_iff, Bool.not_eq_true', Bool.not_eq_false', Int.not_lt, Int.not_le] at hc2
          refine WC.skip ?_
          refine thenQ_n (hK14 _ _ ?_)
          refine WC.seq (fun K16 hK16 => ?_)
          refine WC.region ?_
          refine WL.op rfl (opW.fieldAddrB rfl ?_)
          refine WL.op rfl (opW.loadV rfl (hS.ld1 (by first | exact .here | exact .there (.here) | exact .there (.there (.here)) | exact .there (.there (.there (.here))) | exact .there (.there (.there (.there (.here)))) | exact .there (.there (.there (.there (.there (.here))))) | exact .there (.there (.there (.there (.there (.there (.here)))))) | exact .there (.there (.there (.there (.there (.there (.there (.here))))))) | exact .there (.there (.there (.there (.there (.there (.there (.there (.here)))))))) | exact .there (.there (.there (.there (.there (.there (.there (.there (.there (.here))))))))) | exact .there (.there (.there (.there (.there (.there (.there (.there (.there (.there (.here)))))))))) | exact .there (.there (.there (.there (.there (.there (.there (.there (.there (.there (.there (.here))))))))))) | exact .there (.there (.there (.there (.there (.there (.there (.there (.there (.there (.there (.there (.here))))))))))))) (Message.at_instrs (msg kv iv))) ?_)
          refine WL.op rfl (opW.lenV rfl (hS.sl (v := iv.v) (xs := L) (by first | exact .here | exact .there (.here) | exact .there (.there (.here)) | exact .there (.there (.there (.here))) | exact .there (.there (.there (.there (.here)))) | exact .there (.there (.there (.there (.there (.here))))) | exact .there (.there (.there (.there (.there (.there (.here)))))) | exact .there (.there (.there (.there (.there (.there (.there (.here))))))) | exact .there (.there (.there (.there (.there (.there (.there (.there (.here)))))))) | exact .there (.there (.there (.there (.there (.there (.there (.there (.there (.here))))))))) | exact .there (.there (.there (.there (.there (.there (.there (.there (.there (.there (.here)))))))))) | exact .there (.there (.there (.there (.there (.there (.there (.there (.there (.there (.there (.here))))))))))) | exact .there (.there (.there (.there (.there (.there (.there (.there (.there (.there (.there (.there (.here)))))))))))))) ?_)
          refine WL.op rfl (opW.fieldAddrB rfl ?_)
          refine WL.op0 (opW.storeF (v := .int .i64 (L.length : Int)) (sz := 1) (cs' := Enc.enc (⟨min u 1400000, p, (L.length : Int)⟩ : Budget)) hS rfl rfl (by first | exact .here | exact .there (.here) | exact .there (.there (.here)) | exact .there (.there (.there (.here))) | exact .there (.there (.there (.there (.here)))) | exact .there (.there (.there (.there (.there (.here))))) | exact .there (.there (.there (.there (.there (.there (.here)))))) | exact .there (.there (.there (.there (.there (.there (.there (.here))))))) | exact .there (.there (.there (.there (.there (.there (.there (.there (.here)))))))) | exact .there (.there (.there (.there (.there (.there (.there (.there (.there (.here))))))))) | exact .there (.there (.there (.there (.there (.there (.there (.there (.there (.there (.here)))))))))) | exact .there (.there (.there (.there (.there (.there (.there (.there (.there (.there (.there (.here))))))))))) | exact .there (.there (.there (.there (.there (.there (.there (.there (.there (.there (.there (.there (.here))))))))))))) rfl (by rw [Enc.size_eq]; decide) (one_int _ _) (Budget.set_bad (⟨min u 1400000, p, -1⟩ : Budget) _) ?_)
          intro w hS; replace hS := hS _ (by first | exact .here | exact .there (.here) | exact .there (.there (.here)) | exact .there (.there (.there (.here))) | exact .there (.there (.there (.there (.here)))) | exact .there (.there (.there (.there (.there (.here))))) | exact .there (.there (.there (.there (.there (.there (.here)))))) | exact .there (.there (.there (.there (.there (.there (.there (.here))))))) | exact .there (.there (.there (.there (.there (.there (.there (.there (.here)))))))) | exact .there (.there (.there (.there (.there (.there (.there (.there (.there (.here))))))))) | exact .there (.there (.there (.there (.there (.there (.there (.there (.there (.there (.here)))))))))) | exact .there (.there (.there (.there (.there (.there (.there (.there (.there (.there (.there (.here))))))))))) | exact .there (.there (.there (.there (.there (.there (.there (.there (.there (.there (.there (.there (.here)))))))))))))
          refine WL.nil ?_
          refine thenQ_n (hK16 _ _ ?_)
          refine WC.seq (fun K17 hK17 => ?_)
          refine WC.region ?_
          refine WL.op rfl (opW.fieldAddrB rfl ?_)
          refine WL.op rfl (opW.loadV rfl (hS.ld1 (by first | exact .here | exact .there (.here) | exact .there (.there (.here)) | exact .there (.there (.there (.here))) | exact .there (.there (.there (.there (.here)))) | exact .there (.there (.there (.there (.there (.here))))) | exact .there (.there (.there (.there (.there (.there (.here)))))) | exact .there (.there (.there (.there (.there (.there (.there (.here))))))) | exact .there (.there (.there (.there (.there (.there (.there (.there (.here)))))))) | exact .there (.there (.there (.there (.there (.there (.there (.there (.there (.here))))))))) | exact .there (.there (.there (.there (.there (.there (.there (.there (.there (.there (.here)))))))))) | exact .there (.there (.there (.there (.there (.there (.there (.there (.there (.there (.there (.here))))))))))) | exact .there (.there (.there (.there (.there (.there (.there (.there (.there (.there (.there (.there (.here))))))))))))) (Message.at_instrs (msg kv iv))) ?_)
          refine WL.op rfl (opW.moveV (v := sb.v) rfl ?_)
          refine WL.op rfl (opW.buildE (r := ((wp 1 sb) : Instr)) (ps := Instr.parts ((wp 1 sb) : Instr)) (Instr.enc_eq _) (by first | rfl | (simp only [sysK, budK, msg, k7, k8, wi, i2, wp, enc_vset, enc_vz, Header.enc_eq, Header.parts, Instr.enc_eq, Instr.parts, Lookup.enc_eq, Lookup.parts, Message.enc_eq, Message.parts, Budget.enc_eq, Budget.parts]; rfl)) (by (repeat' (first | exact trivial | refine And.intro ?_ ?_)) <;> first | rfl | exact Enc.size_eq _ | (simp; done)) ?_)
          refine WL.op rfl (opW.buildSl hS (([wp 1 sb] : List Instr)) [.agg (Enc.enc (wp 1 sb))] rfl rfl rfl rfl (by decide) ?_)
          intro b70 w hw hS
          refine WL.op rfl (opW.appendOwn (α := Instr) rfl hS rfl (by first | exact .here | exact .there (.here) | exact .there (.there (.here)) | exact .there (.there (.there (.here))) | exact .there (.there (.there (.there (.here)))) | exact .there (.there (.there (.there (.there (.here))))) | exact .there (.there (.there (.there (.there (.there (.here)))))) | exact .there (.there (.there (.there (.there (.there (.there (.here))))))) | exact .there (.there (.there (.there (.there (.there (.there (.there (.here)))))))) | exact .there (.there (.there (.there (.there (.there (.there (.there (.there (.here))))))))) | exact .there (.there (.there (.there (.there (.there (.there (.there (.there (.there (.here)))))))))) | exact .there (.there (.there (.there (.there (.there (.there (.there (.there (.there (.there (.here))))))))))) | exact .there (.there (.there (.there (.there (.there (.there (.there (.there (.there (.there (.there (.here))))))))))))) (hS.sl (by first | exact .here | exact .there (.here) | exact .there (.there (.here)) | exact .there (.there (.there (.here))) | exact .there (.there (.there (.there (.here)))) | exact .there (.there (.there (.there (.there (.here))))) | exact .there (.there (.there (.there (.there (.there (.here)))))) | exact .there (.there (.there (.there (.there (.there (.there (.here))))))) | exact .there (.there (.there (.there (.there (.there (.there (.there (.here)))))))) | exact .there (.there (.there (.there (.there (.there (.there (.there (.there (.here))))))))) | exact .there (.there (.there (.there (.there (.there (.there (.there (.there (.there (.here)))))))))) | exact .there (.there (.there (.there (.there (.there (.there (.there (.there (.there (.there (.here))))))))))) | exact .there (.there (.there (.there (.there (.there (.there (.there (.there (.there (.there (.there (.here)))))))))))))) (by simp only [List.length_append, List.length_cons, List.length_nil, leB_len]; omega) (by simp only [maxLen, List.length_append, List.length_cons, List.length_nil, leB_len]; omega) ?_)
          intro v71 w hS; replace hS := hS _ (by first | exact .here | exact .there (.here) | exact .there (.there (.here)) | exact .there (.there (.there (.here))) | exact .there (.there (.there (.there (.here)))) | exact .there (.there (.there (.there (.there (.here))))) | exact .there (.there (.there (.there (.there (.there (.here)))))) | exact .there (.there (.there (.there (.there (.there (.there (.here))))))) | exact .there (.there (.there (.there (.there (.there (.there (.there (.here)))))))) | exact .there (.there (.there (.there (.there (.there (.there (.there (.there (.here))))))))) | exact .there (.there (.there (.there (.there (.there (.there (.there (.there (.there (.here)))))))))) | exact .there (.there (.there (.there (.there (.there (.there (.there (.there (.there (.there (.here))))))))))) | exact .there (.there (.there (.there (.there (.there (.there (.there (.there (.there (.there (.there (.here)))))))))))))
          obtain ⟨s71, rfl⟩ := (hS.sl (v := v71) (xs := (L ++ [wp 1 sb])) (by first | exact .here | exact .there (.here) | exact .there (.there (.here)) | exact .there (.there (.there (.here))) | exact .there (.there (.there (.there (.here)))) | exact .there (.there (.there (.there (.there (.here))))) | exact .there (.there (.there (.there (.there (.there (.here)))))) | exact .there (.there (.there (.there (.there (.there (.there (.here))))))) | exact .there (.there (.there (.there (.there (.there (.there (.there (.here)))))))) | exact .there (.there (.there (.there (.there (.there (.there (.there (.there (.here))))))))) | exact .there (.there (.there (.there (.there (.there (.there (.there (.there (.there (.here)))))))))) | exact .there (.there (.there (.there (.there (.there (.there (.there (.there (.there (.there (.here))))))))))) | exact .there (.there (.there (.there (.there (.there (.there (.there (.there (.there (.there (.there (.here)))))))))))))).asV
          refine WL.op rfl (opW.fieldAddrB rfl ?_)
          refine WL.op0 (opW.storeF (v := s71.v) (sz := 1) (cs' := Enc.enc (msg kv s71)) hS rfl rfl (by first | exact .here | exact .there (.here) | exact .there (.there (.here)) | exact .there (.there (.there (.here))) | exact .there (.there (.there (.there (.here)))) | exact .there (.there (.there (.there (.there (.here))))) | exact .there (.there (.there (.there (.there (.there (.here)))))) | exact .there (.there (.there (.there (.there (.there (.there (.here))))))) | exact .there (.there (.there (.there (.there (.there (.there (.there (.here)))))))) | exact .there (.there (.there (.there (.there (.there (.there (.there (.there (.here))))))))) | exact .there (.there (.there (.there (.there (.there (.there (.there (.there (.there (.here)))))))))) | exact .there (.there (.there (.there (.there (.there (.there (.there (.there (.there (.there (.here))))))))))) | exact .there (.there (.there (.there (.there (.there (.there (.there (.there (.there (.there (.there (.here))))))))))))) rfl (by rw [Enc.size_eq]; decide) (Enc.one s71) (Message.set_instrs (msg kv iv) s71) ?_)
          intro w hS; replace hS := hS _ (by first | exact .here | exact .there (.here) | exact .there (.there (.here)) | exact .there (.there (.there (.here))) | exact .there (.there (.there (.there (.here)))) | exact .there (.there (.there (.there (.there (.here))))) | exact .there (.there (.there (.there (.there (.there (.here)))))) | exact .there (.there (.there (.there (.there (.there (.there (.here))))))) | exact .there (.there (.there (.there (.there (.there (.there (.there (.here)))))))) | exact .there (.there (.there (.there (.there (.there (.there (.there (.there (.here))))))))) | exact .there (.there (.there (.there (.there (.there (.there (.there (.there (.there (.here)))))))))) | exact .there (.there (.there (.there (.there (.there (.there (.there (.there (.there (.there (.here))))))))))) | exact .there (.there (.there (.there (.there (.there (.there (.there (.there (.there (.there (.there (.here)))))))))))))
          refine WL.nil ?_
          refine thenQ_n (hK17 _ _ ?_)
          refine WC.seq (fun K18 hK18 => ?_)
          refine WC.seq (fun K19 hK19 => ?_)
          refine WC.draw 4 (.look 0 (.look 2 (.one 1 (.look 3 .nil)))) (by kernel_rfl) (fun _ _ _ h => h) (fun w1 hw1 => ?_)
          replace hS := hS.bel hw1
          have hS1 := hS
          have hT := St.start w1
          refine ML.look rfl rfl rfl (fun w hw => (by have hS := hS1.bel hw; exact opW.loadV rfl (hS.ldA (cs := Enc.enc (msg kv s71)) (by first | exact .here | exact .there (.here) | exact .there (.there (.here)) | exact .there (.there (.there (.here))) | exact .there (.there (.there (.there (.here)))) | exact .there (.there (.there (.there (.there (.here))))) | exact .there (.there (.there (.there (.there (.there (.here)))))) | exact .there (.there (.there (.there (.there (.there (.there (.here))))))) | exact .there (.there (.there (.there (.there (.there (.there (.there (.here)))))))) | exact .there (.there (.there (.there (.there (.there (.there (.there (.there (.here))))))))) | exact .there (.there (.there (.there (.there (.there (.there (.there (.there (.there (.here)))))))))) | exact .there (.there (.there (.there (.there (.there (.there (.there (.there (.there (.there (.here))))))))))) | exact .there (.there (.there (.there (.there (.there (.there (.there (.there (.there (.there (.there (.here))))))))))))) (Enc.size_eq _)) ⟨rfl, rfl⟩)) ?_
          refine ML.look rfl rfl rfl (fun w hw => (by have hS := hS1.bel hw; exact opW.loadV rfl (hS.ldA (cs := Enc.enc (⟨min u 1400000, p, (L.length : Int)⟩ : Budget)) (by first | exact .here | exact .there (.here) | exact .there (.there (.here)) | exact .there (.there (.there (.here))) | exact .there (.there (.there (.there (.here)))) | exact .there (.there (.there (.there (.there (.here))))) | exact .there (.there (.there (.there (.there (.there (.here)))))) | exact .there (.there (.there (.there (.there (.there (.there (.here))))))) | exact .there (.there (.there (.there (.there (.there (.there (.there (.here)))))))) | exact .there (.there (.there (.there (.there (.there (.there (.there (.there (.here))))))))) | exact .there (.there (.there (.there (.there (.there (.there (.there (.there (.there (.here)))))))))) | exact .there (.there (.there (.there (.there (.there (.there (.there (.there (.there (.there (.here))))))))))) | exact .there (.there (.there (.there (.there (.there (.there (.there (.there (.there (.there (.there (.here))))))))))))) (Enc.size_eq _)) ⟨rfl, rfl⟩)) ?_
          refine ML.one rfl rfl rfl (opW.call (of_ok _ (msg kv s71) kL (L ++ [wp 1 sb]) (fun i => (D ++ [lb]).getD i []) (hld.bel hS.old) (hS.sl (v := kv.v) (xs := kL) (by first | exact .here | exact .there (.here) | exact .there (.there (.here)) | exact .there (.there (.there (.here))) | exact .there (.there (.there (.there (.here)))) | exact .there (.there (.there (.there (.there (.here))))) | exact .there (.there (.there (.there (.there (.there (.here)))))) | exact .there (.there (.there (.there (.there (.there (.there (.here))))))) | exact .there (.there (.there (.there (.there (.there (.there (.there (.here)))))))) | exact .there (.there (.there (.there (.there (.there (.there (.there (.there (.here))))))))) | exact .there (.there (.there (.there (.there (.there (.there (.there (.there (.there (.here)))))))))) | exact .there (.there (.there (.there (.there (.there (.there (.there (.there (.there (.there (.here))))))))))) | exact .there (.there (.there (.there (.there (.there (.there (.there (.there (.there (.there (.there (.here)))))))))))))) (hS.sl (v := s71.v) (xs := (L ++ [wp 1 sb])) (by first | exact .here | exact .there (.here) | exact .there (.there (.here)) | exact .there (.there (.there (.here))) | exact .there (.there (.there (.there (.here)))) | exact .there (.there (.there (.there (.there (.here))))) | exact .there (.there (.there (.there (.there (.there (.here)))))) | exact .there (.there (.there (.there (.there (.there (.there (.here))))))) | exact .there (.there (.there (.there (.there (.there (.there (.there (.here)))))))) | exact .there (.there (.there (.there (.there (.there (.there (.there (.there (.here))))))))) | exact .there (.there (.there (.there (.there (.there (.there (.there (.there (.there (.here)))))))))) | exact .there (.there (.there (.there (.there (.there (.there (.there (.there (.there (.there (.here))))))))))) | exact .there (.there (.there (.there (.there (.there (.there (.there (.there (.there (.there (.there (.here)))))))))))))) (by (try simp only [List.length_append, List.length_cons, List.length_nil]); omega) ((hLd _ (hS.sl (v := sa.v) (xs := la) (by first | exact .here | exact .there (.here) | exact .there (.there (.here)) | exact .there (.there (.there (.here))) | exact .there (.there (.there (.there (.here)))) | exact .there (.there (.there (.there (.there (.here))))) | exact .there (.there (.there (.there (.there (.there (.here)))))) | exact .there (.there (.there (.there (.there (.there (.there (.here))))))) | exact .there (.there (.there (.there (.there (.there (.there (.there (.here)))))))) | exact .there (.there (.there (.there (.there (.there (.there (.there (.there (.here))))))))) | exact .there (.there (.there (.there (.there (.there (.there (.there (.there (.there (.here)))))))))) | exact .there (.there (.there (.there (.there (.there (.there (.there (.there (.there (.there (.here))))))))))) | exact .there (.there (.there (.there (.there (.there (.there (.there (.there (.there (.there (.there (.here)))))))))))))) (hS.sl (v := sb.v) (xs := lb) (by first | exact .here | exact .there (.here) | exact .there (.there (.here)) | exact .there (.there (.there (.here))) | exact .there (.there (.there (.there (.here)))) | exact .there (.there (.there (.there (.there (.here))))) | exact .there (.there (.there (.there (.there (.there (.here)))))) | exact .there (.there (.there (.there (.there (.there (.there (.here))))))) | exact .there (.there (.there (.there (.there (.there (.there (.there (.here)))))))) | exact .there (.there (.there (.there (.there (.there (.there (.there (.there (.here))))))))) | exact .there (.there (.there (.there (.there (.there (.there (.there (.there (.there (.here)))))))))) | exact .there (.there (.there (.there (.there (.there (.there (.there (.there (.there (.there (.here))))))))))) | exact .there (.there (.there (.there (.there (.there (.there (.there (.there (.there (.there (.there (.here))))))))))))))).append (DIs.one (hS.sl (v := sb.v) (xs := lb) (by first | exact .here | exact .there (.here) | exact .there (.there (.here)) | exact .there (.there (.there (.here))) | exact .there (.there (.there (.there (.here)))) | exact .there (.there (.there (.there (.there (.here))))) | exact .there (.there (.there (.there (.there (.there (.here)))))) | exact .there (.there (.there (.there (.there (.there (.there (.here))))))) | exact .there (.there (.there (.there (.there (.there (.there (.there (.here)))))))) | exact .there (.there (.there (.there (.there (.there (.there (.there (.there (.here))))))))) | exact .there (.there (.there (.there (.there (.there (.there (.there (.there (.there (.here)))))))))) | exact .there (.there (.there (.there (.there (.there (.there (.there (.there (.there (.there (.here))))))))))) | exact .there (.there (.there (.there (.there (.there (.there (.there (.there (.there (.there (.there (.here)))))))))))))))).data) rfl ?_)
          rintro _ w ⟨rfl, hw⟩; replace hT := hT.bel hw
          rw [stF_eq]
          rw [show budR (stF kL (L ++ [wp 1 sb]) (D ++ [lb])) = budF kL (L ++ [wp 1 sb]) (D ++ [lb]) from rfl]
          rw [hB2]
          refine ⟨hT.old, ?_⟩
          have hS := hS1.merge hT
          try simp only [List.cons_append, List.nil_append] at hS
          refine ML.look rfl rfl rfl (fun w hw => (by have hS := hS1.bel hw; exact opW.boolF (by simp) (opW.neqE (a := (⟨min u 1400000, p, (L.length : Int)⟩ : Budget)) (b := (⟨min u 1400000, p, (L.length : Int)⟩ : Budget)) rfl rfl ⟨rfl, rfl⟩) ⟨rfl, rfl⟩)) ?_
          refine ML.nil ?_
          refine thenQ_n (hK19 _ _ ?_)
          refine WC.cond _ rfl (fun hc3 => ?_) (fun hc3 => ?_)
          ·
            have hr3 := hc3
            try simp only [decide_eq_true_eq, decide_eq_false_iff_not, Bool.and_eq_true, Bool.or_eq_true, Bool.and_eq_false_iff, Bool.or_eq_false_iff, Bool.not_eq_true', Bool.not_eq_false', Int.not_lt, Int.not_le] at hc3
            simp at hr3
          ·
            have hr3 := hc3
            try simp only [decide_eq_true_eq, decide_eq_false_iff_not, Bool.and_eq_true, Bool.or_eq_true, Bool.and_eq_false_iff, Bool.or_eq_false_iff, Bool.not_eq_true', Bool.not_eq_false', Int.not_lt, Int.not_le] at hc3
            refine WC.skip ?_
            refine thenQ_n (hK18 _ _ ?_)
            refine WC.seq (fun K20 hK20 => ?_)
            refine WC.region ?_
            refine WL.op rfl (opW.fieldAddrB rfl ?_)
            refine WL.op rfl (opW.loadV rfl (hS.ld1 (by first | exact .here | exact .there (.here) | exact .there (.there (.here)) | exact .there (.there (.there (.here))) | exact .there (.there (.there (.there (.here)))) | exact .there (.there (.there (.there (.there (.here))))) | exact .there (.there (.there (.there (.there (.there (.here)))))) | exact .there (.there (.there (.there (.there (.there (.there (.here))))))) | exact .there (.there (.there (.there (.there (.there (.there (.there (.here)))))))) | exact .there (.there (.there (.there (.there (.there (.there (.there (.there (.here))))))))) | exact .there (.there (.there (.there (.there (.there (.there (.there (.there (.there (.here)))))))))) | exact .there (.there (.there (.there (.there (.there (.there (.there (.there (.there (.there (.here))))))))))) | exact .there (.there (.there (.there (.there (.there (.there (.there (.there (.there (.there (.there (.here))))))))))))) (Message.at_instrs (msg kv s71))) ?_)
            refine WL.op rfl (opW.moveV (v := sa.v) rfl ?_)
            refine WL.op rfl (opW.buildE (r := ((wp 1 sa) : Instr)) (ps := Instr.parts ((wp 1 sa) : Instr)) (Instr.enc_eq _) (by first | rfl | (simp only [sysK, budK, msg, k7, k8, wi, i2, wp, enc_vset, enc_vz, Header.enc_eq, Header.parts, Instr.enc_eq, Instr.parts, Lookup.enc_eq, Lookup.parts, Message.enc_eq, Message.parts, Budget.enc_eq, Budget.parts]; rfl)) (by (repeat' (first | exact trivial | refine And.intro ?_ ?_)) <;> first | rfl | exact Enc.size_eq _ | (simp; done)) ?_)
            refine WL.op rfl (opW.buildE (r := ((wp 1 ⟨none, 0, 0⟩) : Instr)) (ps := Instr.parts ((wp 1 ⟨none, 0, 0⟩) : Instr)) (Instr.enc_eq _) (by first | rfl | (simp only [sysK, budK, msg, k7, k8, wi, i2, wp, enc_vset, enc_vz, Header.enc_eq, Header.parts, Instr.enc_eq, Instr.parts, Lookup.enc_eq, Lookup.parts, Message.enc_eq, Message.parts, Budget.enc_eq, Budget.parts]; rfl)) (by (repeat' (first | exact trivial | refine And.intro ?_ ?_)) <;> first | rfl | exact Enc.size_eq _ | (simp; done)) ?_)
            refine WL.op rfl (opW.buildSl hS (([wp 1 sa, wp 1 ⟨none, 0, 0⟩] : List Instr)) [.agg (Enc.enc (wp 1 sa)), .agg (Enc.enc (wp 1 ⟨none, 0, 0⟩))] rfl rfl rfl rfl (by decide) ?_)
            intro b82 w hw hS
            refine WL.op rfl (opW.appendOwn (α := Instr) rfl hS rfl (by first | exact .here | exact .there (.here) | exact .there (.there (.here)) | exact .there (.there (.there (.here))) | exact .there (.there (.there (.there (.here)))) | exact .there (.there (.there (.there (.there (.here))))) | exact .there (.there (.there (.there (.there (.there (.here)))))) | exact .there (.there (.there (.there (.there (.there (.there (.here))))))) | exact .there (.there (.there (.there (.there (.there (.there (.there (.here)))))))) | exact .there (.there (.there (.there (.there (.there (.there (.there (.there (.here))))))))) | exact .there (.there (.there (.there (.there (.there (.there (.there (.there (.there (.here)))))))))) | exact .there (.there (.there (.there (.there (.there (.there (.there (.there (.there (.there (.here))))))))))) | exact .there (.there (.there (.there (.there (.there (.there (.there (.there (.there (.there (.there (.here))))))))))))) (hS.sl (by first | exact .here | exact .there (.here) | exact .there (.there (.here)) | exact .there (.there (.there (.here))) | exact .there (.there (.there (.there (.here)))) | exact .there (.there (.there (.there (.there (.here))))) | exact .there (.there (.there (.there (.there (.there (.here)))))) | exact .there (.there (.there (.there (.there (.there (.there (.here))))))) | exact .there (.there (.there (.there (.there (.there (.there (.there (.here)))))))) | exact .there (.there (.there (.there (.there (.there (.there (.there (.there (.here))))))))) | exact .there (.there (.there (.there (.there (.there (.there (.there (.there (.there (.here)))))))))) | exact .there (.there (.there (.there (.there (.there (.there (.there (.there (.there (.there (.here))))))))))) | exact .there (.there (.there (.there (.there (.there (.there (.there (.there (.there (.there (.there (.here)))))))))))))) (by simp only [List.length_append, List.length_cons, List.length_nil, leB_len]; omega) (by simp only [maxLen, List.length_append, List.length_cons, List.length_nil, leB_len]; omega) ?_)
            intro v83 w hS; replace hS := hS _ (by first | exact .here | exact .there (.here) | exact .there (.there (.here)) | exact .there (.there (.there (.here))) | exact .there (.there (.there (.there (.here)))) | exact .there (.there (.there (.there (.there (.here))))) | exact .there (.there (.there (.there (.there (.there (.here)))))) | exact .there (.there (.there (.there (.there (.there (.there (.here))))))) | exact .there (.there (.there (.there (.there (.there (.there (.there (.here)))))))) | exact .there (.there (.there (.there (.there (.there (.there (.there (.there (.here))))))))) | exact .there (.there (.there (.there (.there (.there (.there (.there (.there (.there (.here)))))))))) | exact .there (.there (.there (.there (.there (.there (.there (.there (.there (.there (.there (.here))))))))))) | exact .there (.there (.there (.there (.there (.there (.there (.there (.there (.there (.there (.there (.here)))))))))))))
            obtain ⟨s83, rfl⟩ := (hS.sl (v := v83) (xs := ((L ++ [wp 1 sb]) ++ [wp 1 sa, wp 1 ⟨none, 0, 0⟩])) (by first | exact .here | exact .there (.here) | exact .there (.there (.here)) | exact .there (.there (.there (.here))) | exact .there (.there (.there (.there (.here)))) | exact .there (.there (.there (.there (.there (.here))))) | exact .there (.there (.there (.there (.there (.there (.here)))))) | exact .there (.there (.there (.there (.there (.there (.there (.here))))))) | exact .there (.there (.there (.there (.there (.there (.there (.there (.here)))))))) | exact .there (.there (.there (.there (.there (.there (.there (.there (.there (.here))))))))) | exact .there (.there (.there (.there (.there (.there (.there (.there (.there (.there (.here)))))))))) | exact .there (.there (.there (.there (.there (.there (.there (.there (.there (.there (.there (.here))))))))))) | exact .there (.there (.there (.there (.there (.there (.there (.there (.there (.there (.there (.there (.here)))))))))))))).asV
            refine WL.op rfl (opW.fieldAddrB rfl ?_)
            refine WL.op0 (opW.storeF (v := s83.v) (sz := 1) (cs' := Enc.enc (msg kv s83)) hS rfl rfl (by first | exact .here | exact .there (.here) | exact .there (.there (.here)) | exact .there (.there (.there (.here))) | exact .there (.there (.there (.there (.here)))) | exact .there (.there (.there (.there (.there (.here))))) | exact .there (.there (.there (.there (.there (.there (.here)))))) | exact .there (.there (.there (.there (.there (.there (.there (.here))))))) | exact .there (.there (.there (.there (.there (.there (.there (.there (.here)))))))) | exact .there (.there (.there (.there (.there (.there (.there (.there (.there (.here))))))))) | exact .there (.there (.there (.there (.there (.there (.there (.there (.there (.there (.here)))))))))) | exact .there (.there (.there (.there (.there (.there (.there (.there (.there (.there (.there (.here))))))))))) | exact .there (.there (.there (.there (.there (.there (.there (.there (.there (.there (.there (.there (.here))))))))))))) rfl (by rw [Enc.size_eq]; decide) (Enc.one s83) (Message.set_instrs (msg kv s71) s83) ?_)
            intro w hS; replace hS := hS _ (by first | exact .here | exact .there (.here) | exact .there (.there (.here)) | exact .there (.there (.there (.here))) | exact .there (.there (.there (.there (.here)))) | exact .there (.there (.there (.there (.there (.here))))) | exact .there (.there (.there (.there (.there (.there (.here)))))) | exact .there (.there (.there (.there (.there (.there (.there (.here))))))) | exact .there (.there (.there (.there (.there (.there (.there (.there (.here)))))))) | exact .there (.there (.there (.there (.there (.there (.there (.there (.there (.here))))))))) | exact .there (.there (.there (.there (.there (.there (.there (.there (.there (.there (.here)))))))))) | exact .there (.there (.there (.there (.there (.there (.there (.there (.there (.there (.there (.here))))))))))) | exact .there (.there (.there (.there (.there (.there (.there (.there (.there (.there (.there (.there (.here)))))))))))))
            refine WL.nil ?_
            refine thenQ_n (hK20 _ _ ?_)
            refine WC.seq (fun K21 hK21 => ?_)
            refine WC.draw 8 (.look 0 (.look 2 (.one 1 (.look 3 (.look 4 (.one 5 (.look 6 (.look 7 .nil)))))))) (by kernel_rfl) (fun _ _ _ h => h) (fun w1 hw1 => ?_)
            replace hS := hS.bel hw1
            have hS1 := hS
            have hT := St.start w1
            refine ML.look rfl rfl rfl (fun w hw => (by have hS := hS1.bel hw; exact opW.loadV rfl (hS.ldA (cs := Enc.enc (msg kv s83)) (by first | exact .here | exact .there (.here) | exact .there (.there (.here)) | exact .there (.there (.there (.here))) | exact .there (.there (.there (.there (.here)))) | exact .there (.there (.there (.there (.there (.here))))) | exact .there (.there (.there (.there (.there (.there (.here)))))) | exact .there (.there (.there (.there (.there (.there (.there (.here))))))) | exact .there (.there (.there (.there (.there (.there (.there (.there (.here)))))))) | exact .there (.there (.there (.there (.there (.there (.there (.there (.there (.here))))))))) | exact .there (.there (.there (.there (.there (.there (.there (.there (.there (.there (.here)))))))))) | exact .there (.there (.there (.there (.there (.there (.there (.there (.there (.there (.there (.here))))))))))) | exact .there (.there (.there (.there (.there (.there (.there (.there (.there (.there (.there (.there (.here))))))))))))) (Enc.size_eq _)) ⟨rfl, rfl⟩)) ?_
            refine ML.look rfl rfl rfl (fun w hw => (by have hS := hS1.bel hw; exact opW.loadV rfl (hS.ldA (cs := Enc.enc (⟨min u 1400000, p, (L.length : Int)⟩ : Budget)) (by first | exact .here | exact .there (.here) | exact .there (.there (.here)) | exact .there (.there (.there (.here))) | exact .there (.there (.there (.there (.here)))) | exact .there (.there (.there (.there (.there (.here))))) | exact .there (.there (.there (.there (.there (.there (.here)))))) | exact .there (.there (.there (.there (.there (.there (.there (.here))))))) | exact .there (.there (.there (.there (.there (.there (.there (.there (.here)))))))) | exact .there (.there (.there (.there (.there (.there (.there (.there (.there (.here))))))))) | exact .there (.there (.there (.there (.there (.there (.there (.there (.there (.there (.here)))))))))) | exact .there (.there (.there (.there (.there (.there (.there (.there (.there (.there (.there (.here))))))))))) | exact .there (.there (.there (.there (.there (.there (.there (.there (.there (.there (.there (.there (.here))))))))))))) (Enc.size_eq _)) ⟨rfl, rfl⟩)) ?_
            refine ML.one rfl rfl rfl (opW.call (of_ok _ (msg kv s83) kL ((L ++ [wp 1 sb]) ++ [wp 1 sa, wp 1 ⟨none, 0, 0⟩]) (fun i => ((D ++ [lb]) ++ [la, []]).getD i []) (hld.bel hS.old) (hS.sl (v := kv.v) (xs := kL) (by first | exact .here | exact .there (.here) | exact .there (.there (.here)) | exact .there (.there (.there (.here))) | exact .there (.there (.there (.there (.here)))) | exact .there (.there (.there (.there (.there (.here))))) | exact .there (.there (.there (.there (.there (.there (.here)))))) | exact .there (.there (.there (.there (.there (.there (.there (.here))))))) | exact .there (.there (.there (.there (.there (.there (.there (.there (.here)))))))) | exact .there (.there (.there (.there (.there (.there (.there (.there (.there (.here))))))))) | exact .there (.there (.there (.there (.there (.there (.there (.there (.there (.there (.here)))))))))) | exact .there (.there (.there (.there (.there (.there (.there (.there (.there (.there (.there (.here))))))))))) | exact .there (.there (.there (.there (.there (.there (.there (.there (.there (.there (.there (.there (.here)))))))))))))) (hS.sl (v := s83.v) (xs := ((L ++ [wp 1 sb]) ++ [wp 1 sa, wp 1 ⟨none, 0, 0⟩])) (by first | exact .here | exact .there (.here) | exact .there (.there (.here)) | exact .there (.there (.there (.here))) | exact .there (.there (.there (.there (.here)))) | exact .there (.there (.there (.there (.there (.here))))) | exact .there (.there (.there (.there (.there (.there (.here)))))) | exact .there (.there (.there (.there (.there (.there (.there (.here))))))) | exact .there (.there (.there (.there (.there (.there (.there (.there (.here)))))))) | exact .there (.there (.there (.there (.there (.there (.there (.there (.there (.here))))))))) | exact .there (.there (.there (.there (.there (.there (.there (.there (.there (.there (.here)))))))))) | exact .there (.there (.there (.there (.there (.there (.there (.there (.there (.there (.there (.here))))))))))) | exact .there (.there (.there (.there (.there (.there (.there (.there (.there (.there (.there (.there (.here)))))))))))))) (by (try simp only [List.length_append, List.length_cons, List.length_nil]); omega) (((hLd _ (hS.sl (v := sa.v) (xs := la) (by first | exact .here | exact .there (.here) | exact .there (.there (.here)) | exact .there (.there (.there (.here))) | exact .there (.there (.there (.there (.here)))) | exact .there (.there (.there (.there (.there (.here))))) | exact .there (.there (.there (.there (.there (.there (.here)))))) | exact .there (.there (.there (.there (.there (.there (.there (.here))))))) | exact .there (.there (.there (.there (.there (.there (.there (.there (.here)))))))) | exact .there (.there (.there (.there (.there (.there (.there (.there (.there (.here))))))))) | exact .there (.there (.there (.there (.there (.there (.there (.there (.there (.there (.here)))))))))) | exact .there (.there (.there (.there (.there (.there (.there (.there (.there (.there (.there (.here))))))))))) | exact .there (.there (.there (.there (.there (.there (.there (.there (.there (.there (.there (.there (.here)))))))))))))) (hS.sl (v := sb.v) (xs := lb) (by first | exact .here | exact .there (.here) | exact .there (.there (.here)) | exact .there (.there (.there (.here))) | exact .there (.there (.there (.there (.here)))) | exact .there (.there (.there (.there (.there (.here))))) | exact .there (.there (.there (.there (.there (.there (.here)))))) | exact .there (.there (.there (.there (.there (.there (.there (.here))))))) | exact .there (.there (.there (.there (.there (.there (.there (.there (.here)))))))) | exact .there (.there (.there (.there (.there (.there (.there (.there (.there (.here))))))))) | exact .there (.there (.there (.there (.there (.there (.there (.there (.there (.there (.here)))))))))) | exact .there (.there (.there (.there (.there (.there (.there (.there (.there (.there (.there (.here))))))))))) | exact .there (.there (.there (.there (.there (.there (.there (.there (.there (.there (.there (.there (.here))))))))))))))).append (DIs.one (hS.sl (v := sb.v) (xs := lb) (by first | exact .here | exact .there (.here) | exact .there (.there (.here)) | exact .there (.there (.there (.here))) | exact .there (.there (.there (.there (.here)))) | exact .there (.there (.there (.there (.there (.here))))) | exact .there (.there (.there (.there (.there (.there (.here)))))) | exact .there (.there (.there (.there (.there (.there (.there (.here))))))) | exact .there (.there (.there (.there (.there (.there (.there (.there (.here)))))))) | exact .there (.there (.there (.there (.there (.there (.there (.there (.there (.here))))))))) | exact .there (.there (.there (.there (.there (.there (.there (.there (.there (.there (.here)))))))))) | exact .there (.there (.there (.there (.there (.there (.there (.there (.there (.there (.there (.here))))))))))) | exact .there (.there (.there (.there (.there (.there (.there (.there (.there (.there (.there (.there (.here)))))))))))))))).append ((DIs.one (hS.sl (v := sa.v) (xs := la) (by first | exact .here | exact .there (.here) | exact .there (.there (.here)) | exact .there (.there (.there (.here))) | exact .there (.there (.there (.there (.here)))) | exact .there (.there (.there (.there (.there (.here))))) | exact .there (.there (.there (.there (.there (.there (.here)))))) | exact .there (.there (.there (.there (.there (.there (.there (.here))))))) | exact .there (.there (.there (.there (.there (.there (.there (.there (.here)))))))) | exact .there (.there (.there (.there (.there (.there (.there (.there (.there (.here))))))))) | exact .there (.there (.there (.there (.there (.there (.there (.there (.there (.there (.here)))))))))) | exact .there (.there (.there (.there (.there (.there (.there (.there (.there (.there (.there (.here))))))))))) | exact .there (.there (.there (.there (.there (.there (.there (.there (.there (.there (.there (.there (.here))))))))))))))).append (DIs.one (SlR.nil _)))).data) rfl ?_)
            rintro _ w ⟨rfl, hw⟩; replace hT := hT.bel hw
            rw [stF_eq]
            rw [show budR (stF kL ((L ++ [wp 1 sb]) ++ [wp 1 sa, wp 1 ⟨none, 0, 0⟩]) ((D ++ [lb]) ++ [la, []])) = budF kL ((L ++ [wp 1 sb]) ++ [wp 1 sa, wp 1 ⟨none, 0, 0⟩]) ((D ++ [lb]) ++ [la, []]) from rfl]
            rw [hB4]
            refine ⟨hT.old, ?_⟩
            have hS := hS1.merge hT
            try simp only [List.cons_append, List.nil_append] at hS
            refine ML.look rfl rfl rfl (fun w hw => (by have hS := hS1.bel hw; exact opW.boolT (by simp) (opW.eqlE (a := (⟨min u 1400000, p, (L.length : Int)⟩ : Budget)) (b := (⟨min u 1400000, p, (L.length : Int)⟩ : Budget)) rfl rfl ⟨rfl, rfl⟩) ⟨rfl, rfl⟩)) ?_
            refine ML.look rfl rfl rfl (fun w hw => (by have hS := hS1.bel hw; exact opW.moveB rfl ⟨rfl, rfl⟩)) ?_
            refine ML.oneT 89 rfl rfl rfl rfl rfl rfl (opW.call (lives8 _ (hld.bel hS.old)) rfl ?_)
            rintro _ w ⟨rfl, hw⟩; replace hT := hT.bel hw
            refine ⟨hT.old, ?_⟩
            have hS := hS1.merge hT
            try simp only [List.cons_append, List.nil_append] at hS
            refine ML.look rfl rfl rfl (fun w hw => (by have hS := hS1.bel hw; exact opW.pickT rfl rfl ⟨rfl, rfl⟩)) ?_
            refine ML.look rfl rfl rfl (fun w hw => (by have hS := hS1.bel hw; exact opW.assignB rfl ⟨rfl, rfl⟩)) ?_
            refine ML.nil ?_
            refine thenQ_n (hK21 _ _ ?_)
            refine WC.ret ?_
            refine bodyQ_ret (.tmpB rfl .nil) ?_
            exact ⟨rfl, hS.old⟩

end Go.Fer
