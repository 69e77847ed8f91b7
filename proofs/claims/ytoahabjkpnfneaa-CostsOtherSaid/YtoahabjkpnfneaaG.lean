/- digits -/
import Derived.Test.YtoahabjkpnfneaaB
set_option linter.all false
namespace Go.Fer
open Go Go.Proofs Go.RowKit

def valL : List U64 → Nat
  | [] => 0
  | x :: r => x.n + 65536 * valL r
theorem valL_append : ∀ (a b : List U64), valL (a ++ b) = valL a + 65536 ^ a.length * valL b
  | [], b => by simp [valL]
  | x :: a, b => by
    have h := valL_append a b
    simp only [List.cons_append, valL, List.length_cons, h, Nat.pow_succ]
    grind
theorem valL_set : ∀ (l : List U64) (j : Nat) (h : j < l.length) (v : Nat), valL (l.set j ⟨v⟩) + l[j].n * 65536 ^ j = valL l + v * 65536 ^ j
  | x :: l, 0, _, v => by simp [valL]; omega
  | x :: l, j + 1, h, v => by
    have hj : j < l.length := by simpa using h
    have e := valL_set l j hj v
    simp only [List.set_cons_succ, List.getElem_cons_succ, valL, Nat.pow_succ]
    generalize 65536 ^ j = p at *
    have e1 : l[j].n * (p * 65536) = l[j].n * p * 65536 := (Nat.mul_assoc _ _ _).symm
    have e2 : v * (p * 65536) = v * p * 65536 := (Nat.mul_assoc _ _ _).symm
    rw [e1, e2]
    omega
def OkD (l : List U64) : Prop := ∀ x ∈ l, x.n < 65536
theorem valL_lt : ∀ (l : List U64), OkD l → valL l < 65536 ^ l.length
  | [], _ => by simp [valL]
  | x :: l, h => by
    have h1 := valL_lt l (fun y hy => h y (List.mem_cons_of_mem _ hy))
    have h2 := h x (List.mem_cons_self)
    simp only [valL, List.length_cons, Nat.pow_succ]
    omega
theorem okD_set {l : List U64} (h : OkD l) (j : Nat) {v : Nat} (hv : v < 65536) : OkD (l.set j ⟨v⟩) := by
  intro x hx
  rcases List.mem_or_eq_of_mem_set hx with h1 | h1
  · exact h x h1
  · subst h1; exact hv
def digL (n k : Nat) : List U64 := (List.range k).map fun i => ⟨n / 65536 ^ i % 65536⟩
theorem digL_len (n k : Nat) : (digL n k).length = k := by simp [digL]
theorem digL_get {n k i : Nat} (h : i < (digL n k).length) : (digL n k)[i] = ⟨n / 65536 ^ i % 65536⟩ := by simp [digL]
theorem digL_succ (n k : Nat) : digL n (k + 1) = digL n k ++ [⟨n / 65536 ^ k % 65536⟩] := by simp [digL, List.range_succ]
theorem digL_okd (n k : Nat) : OkD (digL n k) := by
  intro x hx
  simp only [digL, List.mem_map, List.mem_range] at hx
  obtain ⟨i, _, rfl⟩ := hx
  exact Nat.mod_lt _ (by decide)
theorem rep_val : ∀ n : Nat, valL (List.replicate n ⟨0⟩) = 0
  | 0 => rfl
  | n + 1 => by rw [List.replicate_succ, valL, rep_val n]
theorem valL_cut {l : List U64} (hd : OkD l) (hl : l.length = 8) : valL (l.drop 4) = valL l / 18446744073709551616 ∧ valL (l.take 4) = valL l % 18446744073709551616 := by
  have h1 := valL_append (l.take 4) (l.drop 4)
  rw [List.take_append_drop, List.length_take, hl, show min 4 8 = 4 from rfl] at h1
  have h2 := valL_lt (l.take 4) (fun x hx => hd x (List.mem_of_mem_take hx))
  rw [List.length_take, hl, show min 4 8 = 4 from rfl] at h2
  omega
theorem mod_step (b k : Nat) : b % 65536 ^ (k + 1) = b % 65536 ^ k + (b / 65536 ^ k % 65536) * 65536 ^ k := by
  rw [Nat.pow_succ, Nat.mod_mul, Nat.mul_comm (65536 ^ k)]
theorem prod_step {A x y o c R p q n V V' B B' : Nat} (hn : n = o + x * y + c) (h : V + c * p = A + x * q * B) (hp : p = q * R) (hB : B' = B + y * R) (hV : V' + o * p = V + n % 65536 * p) : V' + n / 65536 * (p * 65536) = A + x * q * B' := by
  have h1 : n % 65536 * p + n / 65536 * (p * 65536) = n * p := by
    rw [← Nat.mul_assoc, Nat.mul_right_comm, ← Nat.add_mul, Nat.mod_add_div' n 65536]
  subst hn
  subst hB
  have h2 : x * q * (B + y * R) = x * q * B + x * y * p := by subst hp; grind
  rw [h2]
  have h3 : (o + x * y + c) * p = o * p + x * y * p + c * p := by grind
  omega
theorem prod_n {o x y c : Nat} (ho : o < 65536) (hx : x < 65536) (hy : y < 65536) (hc : c < 65536) : o + x * y + c < 4294967296 ∧ (o + x * y + c) / 65536 < 65536 := by
  have := Nat.mul_le_mul (show x ≤ 65535 by omega) (show y ≤ 65535 by omega)
  generalize x * y = z at *
  omega
theorem bit_hi {hi lo i : Nat} (hl : lo < 18446744073709551616) (h : 64 ≤ i) : (hi * 18446744073709551616 + lo) / 2 ^ i % 2 = hi / 2 ^ (i - 64) % 2 := by
  have e : 2 ^ i = 18446744073709551616 * 2 ^ (i - 64) := by rw [show (18446744073709551616 : Nat) = 2 ^ 64 from rfl, ← Nat.pow_add]; congr 1; omega
  rw [e, ← Nat.div_div_eq_div_mul, show (hi * 18446744073709551616 + lo) / 18446744073709551616 = hi by omega]
theorem bit_lo {hi lo i : Nat} (hl : lo < 18446744073709551616) (h : i < 64) : (hi * 18446744073709551616 + lo) / 2 ^ i % 2 = lo / 2 ^ i % 2 := by
  have e1 : lo = (hi * 18446744073709551616 + lo) % (2 ^ i * 2 ^ (64 - i)) := by rw [← Nat.pow_add, show i + (64 - i) = 64 by omega]; omega
  generalize hi * 18446744073709551616 + lo = P at *
  rw [e1, Nat.mod_mul_right_div_self, Nat.mod_mod_of_dvd]
  exact ⟨2 ^ (63 - i), by rw [show 64 - i = (63 - i) + 1 by omega, Nat.pow_succ, Nat.mul_comm]⟩
theorem long_step {P d i n r bit : Nat} (h : n * d + r = P / 2 ^ (i + 1)) (hb : bit = P / 2 ^ i % 2) : 2 * n * d + (2 * r + bit) = P / 2 ^ i := by
  rw [Nat.pow_succ, ← Nat.div_div_eq_div_mul] at h
  have e : 2 * n * d = 2 * (n * d) := Nat.mul_assoc _ _ _
  rw [e]
  generalize n * d = z at *
  omega
theorem long_take {P d i n r bit : Nat} (h : 2 * n * d + (2 * r + bit) = P / 2 ^ i) (hd : d ≤ 2 * r + bit) : (2 * n + 1) * d + (2 * r + bit - d) = P / 2 ^ i := by
  rw [Nat.succ_mul]
  omega
theorem long_over {a b d i n r : Nat} (h : n * d + r = a * b / 2 ^ (i + 1)) (hn : 9223372036854775808 ≤ n) : d ≤ a * b / 18446744073709551616 := by
  generalize a * b = P at *
  have h1 : 9223372036854775808 * d ≤ n * d := Nat.mul_le_mul_right _ hn
  have h2 : P / 2 ^ (i + 1) ≤ P / 2 := Nat.div_le_div_left (by rw [Nat.pow_succ]; have := Nat.two_pow_pos i; omega) (by decide)
  omega
theorem long_end {a b d n r : Nat} (h : n * d + r = a * b / 2 ^ 0) (hr : r < d) (hn : n < 18446744073709551616) : a * b / d = n ∧ a * b % d = r ∧ ¬ d ≤ a * b / 18446744073709551616 := by
  rw [Nat.pow_zero, Nat.div_one] at h
  have h1 : (n + 1) * d ≤ 18446744073709551616 * d := Nat.mul_le_mul_right _ (by omega)
  rw [Nat.succ_mul] at h1
  have h2 : a * b / d = n ∧ a * b % d = r := by
    rw [← h, Nat.mul_comm n d]
    rw [Nat.mul_add_div (by omega), Nat.mul_add_mod, Nat.div_eq_of_lt hr, Nat.mod_eq_of_lt hr]
    exact ⟨rfl, rfl⟩
  refine ⟨h2.1, h2.2, ?_⟩
  omega

theorem ptrAdd_zero (v : Value) (i s : Nat) : ptrAdd (elemP v i s) 0 = elemP v i s := by
  unfold elemP
  split <;> simp [ptrAdd, undef]

theorem nand1 {a : Nat} (h : a < 18446744073709551616) : bitsI .and .u64 (a : Int) 1 = ((a % 2 : Nat) : Int) := by
  have h1 := bits_and_u64 a 1 h (by omega)
  rw [show a &&& 1 = a % 2 from Nat.and_two_pow_sub_one_eq_mod a 1] at h1
  exact h1
theorem nquo16 {a : Nat} (h : a < 18446744073709551616) : IntKind.u64.wrap ((a : Int).tdiv 65536) = ((a / 65536 : Nat) : Int) := nquo (b := 65536) h
theorem nmod16 (a : Nat) : (a : Int).tmod 65536 = ((a % 65536 : Nat) : Int) := tmod_nat a 65536
theorem pow_step (n k : Nat) : n / 65536 ^ k / 65536 = n / 65536 ^ (k + 1) := by rw [Nat.pow_succ, Nat.div_div_eq_div_mul]
theorem div_le_M {n k : Nat} (hn : n < 18446744073709551616) : n / 65536 ^ k < 18446744073709551616 := Nat.lt_of_le_of_lt (Nat.div_le_self _ _) hn
theorem drop_lt {xs : List U64} (hd : OkD xs) (hl : xs.length = 4) (j : Nat) : valL (xs.drop j) < 18446744073709551616 := by
  have h := valL_lt (xs.drop j) (fun x hx => hd x (List.mem_of_mem_drop hx))
  have h2 : 65536 ^ (xs.drop j).length ≤ 65536 ^ 4 := Nat.pow_le_pow_right (by decide) (by rw [List.length_drop]; omega)
  omega

theorem digits_ok (w0 : World) (n : Nat) (hn : n < 18446744073709551616) : Ret Try.prog 26 #[.int .u64 ((n : Nat) : Int)] w0 (fun u w' => New w0 w' u 34 (digL n 4) ∧ Bel w0 w') := by
  refine Ret.enter (args := [.int .u64 ((n : Nat) : Int)]) Try.func26 rfl Try.ntmps26 Try.results26 rfl ?_
  have hS := St.start w0
  refine WC.seq (fun K1 hK1 => ?_)
  refine WC.region ?_
  refine WL.op rfl (opW.assignV (v := .slice none 0 0) rfl ?_)
  refine WL.nil ?_
  refine thenQ_n (hK1 _ _ ?_)
  refine WC.seq (fun K2 hK2 => ?_)
  refine WC.region ?_
  refine WL.op rfl (opW.assignV (v := .slice none 0 0) rfl ?_)
  refine WL.nil ?_
  refine thenQ_n (hK2 _ _ ?_)
  refine WC.seq (fun K3 hK3 => ?_)
  refine WC.seq (fun K4 hK4 => ?_)
  refine WC.region ?_
  refine WL.op rfl (opW.assignI rfl ?_)
  refine WL.nil ?_
  refine thenQ_n (hK4 _ _ ?_)
  refine WC.block ?_
  refine WC.loop (fun q f w => ∃ (k : Nat) (vo : Value), Fits [(0, .int .u64 ((n / 65536 ^ k : Nat) : Int)), (3, vo), (4, .int .i64 (k : Int))] f ∧ St w0 [ownE vo 34 (digL n k)] w ∧ k ≤ 4 ∧ q = 4 - k) (4) ?_ ?_
  ·
    exact ⟨0, .slice none 0 0, ⟨congrArg (fun i : Nat => Value.int .u64 (i : Int)) (Nat.div_one n).symm, rfl, rfl, trivial⟩, hS.nilOwn _, Nat.zero_le _, rfl⟩
  ·
    rintro q f w ⟨k, vo, hfit, hS, hk0, hm⟩
    refine WC.fits _ hfit (fun g => ?_)
    clear hfit
    refine WC.seq (fun K5 hK5 => ?_)
    refine WC.seq (fun K6 hK6 => ?_)
    refine WC.region ?_
    refine WL.op rfl (opW.moveI rfl ?_)
    refine WL.op rfl (opW.lss rfl rfl ?_)
    refine WL.nil ?_
    refine thenQ_n (hK6 _ _ ?_)
    refine WC.cond _ rfl (fun hc0 => ?_) (fun hc0 => ?_)
    ·
      have hr0 := hc0
      try simp only [decide_eq_true_eq, decide_eq_false_iff_not, Bool.and_eq_true, Bool.or_eq_true, Bool.and_eq_false_iff, Bool.or_eq_false_iff, Bool.not_eq_true', Bool.not_eq_false', Int.not_lt, Int.not_le] at hc0
      have hkl : k < 4 := by omega
      have hnk := div_le_M (k := k) hn
      have hdl := digL_len n k
      refine WC.skip ?_
      refine thenQ_n (hK5 _ _ ?_)
      refine WC.seq (fun K7 hK7 => ?_)
      refine WC.block ?_
      refine WC.seq (fun K8 hK8 => ?_)
      refine WC.region ?_
      refine WL.op rfl (opW.moveV (v := vo) rfl ?_)
      refine WL.op rfl (opW.moveI rfl ?_)
      refine WL.op rfl (opW.rem rfl rfl (by omega) (nmod16 _) ?_)
      refine WL.op rfl (opW.buildSl hS (([⟨n / 65536 ^ k % 65536⟩] : List U64)) [.int .u64 ((n / 65536 ^ k % 65536 : Nat) : Int)] rfl rfl rfl rfl (by decide) ?_)
      intro b12 w hw hS
      refine WL.op rfl (opW.appendOwn (α := U64) rfl hS rfl (by first | exact .here | exact .there (.here) | exact .there (.there (.here)) | exact .there (.there (.there (.here))) | exact .there (.there (.there (.there (.here)))) | exact .there (.there (.there (.there (.there (.here))))) | exact .there (.there (.there (.there (.there (.there (.here)))))) | exact .there (.there (.there (.there (.there (.there (.there (.here))))))) | exact .there (.there (.there (.there (.there (.there (.there (.there (.here)))))))) | exact .there (.there (.there (.there (.there (.there (.there (.there (.there (.here))))))))) | exact .there (.there (.there (.there (.there (.there (.there (.there (.there (.there (.here)))))))))) | exact .there (.there (.there (.there (.there (.there (.there (.there (.there (.there (.there (.here))))))))))) | exact .there (.there (.there (.there (.there (.there (.there (.there (.there (.there (.there (.there (.here))))))))))))) (hS.sl (by first | exact .here | exact .there (.here) | exact .there (.there (.here)) | exact .there (.there (.there (.here))) | exact .there (.there (.there (.there (.here)))) | exact .there (.there (.there (.there (.there (.here))))) | exact .there (.there (.there (.there (.there (.there (.here)))))) | exact .there (.there (.there (.there (.there (.there (.there (.here))))))) | exact .there (.there (.there (.there (.there (.there (.there (.there (.here)))))))) | exact .there (.there (.there (.there (.there (.there (.there (.there (.there (.here))))))))) | exact .there (.there (.there (.there (.there (.there (.there (.there (.there (.there (.here)))))))))) | exact .there (.there (.there (.there (.there (.there (.there (.there (.there (.there (.there (.here))))))))))) | exact .there (.there (.there (.there (.there (.there (.there (.there (.there (.there (.there (.there (.here)))))))))))))) (by simp only [List.length_cons, List.length_nil]; omega) (by simp only [maxLen]; simp only [List.length_cons, List.length_nil]; omega) ?_)
      intro v13 w hS; replace hS := hS _ (by first | exact .here | exact .there (.here) | exact .there (.there (.here)) | exact .there (.there (.there (.here))) | exact .there (.there (.there (.there (.here)))) | exact .there (.there (.there (.there (.there (.here))))) | exact .there (.there (.there (.there (.there (.there (.here)))))) | exact .there (.there (.there (.there (.there (.there (.there (.here))))))) | exact .there (.there (.there (.there (.there (.there (.there (.there (.here)))))))) | exact .there (.there (.there (.there (.there (.there (.there (.there (.there (.here))))))))) | exact .there (.there (.there (.there (.there (.there (.there (.there (.there (.there (.here)))))))))) | exact .there (.there (.there (.there (.there (.there (.there (.there (.there (.there (.there (.here))))))))))) | exact .there (.there (.there (.there (.there (.there (.there (.there (.there (.there (.there (.there (.here)))))))))))))
      refine WL.op rfl (opW.assignV (v := v13) rfl ?_)
      refine WL.nil ?_
      refine thenQ_n (hK8 _ _ ?_)
      refine WC.region ?_
      refine WL.op rfl (opW.moveI rfl ?_)
      refine WL.op rfl (opW.quo rfl rfl (by omega) (nquo16 hnk) ?_)
      refine WL.op rfl (opW.assignI rfl ?_)
      refine WL.nil ?_
      refine blockQ_n ?_
      refine thenQ_n (hK7 _ _ ?_)
      refine WC.region ?_
      refine WL.op rfl (opW.moveI rfl ?_)
      refine WL.op rfl (opW.add rfl rfl (wrap_i64 (by omega)) ?_)
      refine WL.op rfl (opW.assignI rfl ?_)
      refine WL.nil ?_
      refine thenQ_n ?_
      exact ⟨4 - (k + 1), by omega, k + 1, v13, ⟨congrArg (fun i : Nat => Value.int .u64 (i : Int)) (pow_step n k), rfl, congrArg (Value.int .i64) (by omega), trivial⟩, (by rw [digL_succ]; exact hS.sub (by repeat (first | with_reducible exact List.nil_sublist _ | with_reducible exact List.Sublist.refl _ | with_reducible refine List.Sublist.cons₂ _ ?_ | with_reducible refine List.Sublist.cons _ ?_))), by omega, rfl⟩
    ·
      have hr0 := hc0
      try simp only [decide_eq_true_eq, decide_eq_false_iff_not, Bool.and_eq_true, Bool.or_eq_true, Bool.and_eq_false_iff, Bool.or_eq_false_iff, Bool.not_eq_true', Bool.not_eq_false', Int.not_lt, Int.not_le] at hc0
      obtain rfl : k = 4 := by omega
      refine WC.exit ?_
      refine thenQ_e ?_
      refine thenQ_e ?_
      refine blockQ_hit ?_
      refine thenQ_n (hK3 _ _ ?_)
      refine WC.seq (fun K9 hK9 => ?_)
      refine WC.region ?_
      refine WL.op rfl (opW.moveV (v := vo) rfl ?_)
      refine WL.op rfl (opW.assignV (v := vo) rfl ?_)
      refine WL.nil ?_
      refine thenQ_n (hK9 _ _ ?_)
      refine WC.ret ?_
      refine bodyQ_ret (.tmpV (v := vo) rfl .nil) ?_
      exact ⟨hS.own_new (by first | exact .here | exact .there (.here) | exact .there (.there (.here)) | exact .there (.there (.there (.here))) | exact .there (.there (.there (.there (.here)))) | exact .there (.there (.there (.there (.there (.here))))) | exact .there (.there (.there (.there (.there (.there (.here)))))) | exact .there (.there (.there (.there (.there (.there (.there (.here))))))) | exact .there (.there (.there (.there (.there (.there (.there (.there (.here)))))))) | exact .there (.there (.there (.there (.there (.there (.there (.there (.there (.here))))))))) | exact .there (.there (.there (.there (.there (.there (.there (.there (.there (.there (.here)))))))))) | exact .there (.there (.there (.there (.there (.there (.there (.there (.there (.there (.there (.here))))))))))) | exact .there (.there (.there (.there (.there (.there (.there (.there (.there (.there (.there (.there (.here))))))))))))), hS.old⟩

theorem whole_ok (w0 : World) (v : Value) (xs : List U64) (hx : SlR w0 v xs) (hl : xs.length = 4) (hd : OkD xs) : Ret Try.prog 23 #[v] w0 (fun u w' => u = .int .u64 ((valL xs : Nat) : Int) ∧ Bel w0 w') := by
  refine Ret.enter (args := [v]) Try.func23 rfl Try.ntmps23 Try.results23 rfl ?_
  have hS := St.start w0
  refine WC.seq (fun K1 hK1 => ?_)
  refine WC.region ?_
  refine WL.op rfl (opW.assignI rfl ?_)
  refine WL.nil ?_
  refine thenQ_n (hK1 _ _ ?_)
  refine WC.seq (fun K2 hK2 => ?_)
  refine WC.region ?_
  refine WL.op rfl (opW.assignI rfl ?_)
  refine WL.nil ?_
  refine thenQ_n (hK2 _ _ ?_)
  refine WC.seq (fun K3 hK3 => ?_)
  refine WC.seq (fun K4 hK4 => ?_)
  refine WC.region ?_
  refine WL.op rfl (opW.assignI rfl ?_)
  refine WL.nil ?_
  refine thenQ_n (hK4 _ _ ?_)
  refine WC.block ?_
  refine WC.loop (fun q f w => ∃ (m : Nat) (i : Int), Fits [(0, v), (3, .int .u64 ((valL (xs.drop m) : Nat) : Int)), (4, .int .i64 i)] f ∧ St w0 [] w ∧ m ≤ 4 ∧ i = (m : Int) - 1 ∧ q = m) (4) ?_ ?_
  ·
    exact ⟨4, 3, ⟨rfl, (by rw [List.drop_eq_nil_of_le (by omega)]; rfl), rfl, trivial⟩, hS, Nat.le_refl _, rfl, rfl⟩
  ·
    rintro q f w ⟨m, i, hfit, hS, hm4, hi, hq⟩
    refine WC.fits _ hfit (fun g => ?_)
    clear hfit
    refine WC.seq (fun K5 hK5 => ?_)
    refine WC.seq (fun K6 hK6 => ?_)
    refine WC.region ?_
    refine WL.op rfl (opW.moveI rfl ?_)
    refine WL.op rfl (opW.geq rfl rfl ?_)
    refine WL.nil ?_
    refine thenQ_n (hK6 _ _ ?_)
    refine WC.cond _ rfl (fun hc0 => ?_) (fun hc0 => ?_)
    ·
      have hr0 := hc0
      try simp only [decide_eq_true_eq, decide_eq_false_iff_not, Bool.and_eq_true, Bool.or_eq_true, Bool.and_eq_false_iff, Bool.or_eq_false_iff, Bool.not_eq_true', Bool.not_eq_false', Int.not_lt, Int.not_le] at hc0
      obtain ⟨j, rfl⟩ : ∃ j : Nat, i = (j : Int) := ⟨i.toNat, by omega⟩
      obtain rfl : m = j + 1 := by omega
      have hj : j < xs.length := by omega
      have hdr := List.drop_eq_getElem_cons hj
      have hv : valL (xs.drop j) = 65536 * valL (xs.drop (j + 1)) + xs[j].n := by rw [hdr, valL, Nat.add_comm]
      have hvl := drop_lt hd hl j
      refine WC.skip ?_
      refine thenQ_n (hK5 _ _ ?_)
      refine WC.seq (fun K7 hK7 => ?_)
      refine WC.block ?_
      refine WC.region ?_
      refine WL.op rfl (opW.moveI rfl ?_)
      refine WL.op rfl (opW.mul rfl rfl (nmul (a := 65536) (by omega)) ?_)
      refine WL.op rfl (opW.moveV (v := v) rfl ?_)
      refine WL.op rfl (opW.moveI rfl ?_)
      refine WL.op rfl (opW.idxV rfl ((hx.bel hS.old)) rfl (by omega) ?_)
      refine WL.op rfl (opW.loadV rfl (((hx.bel hS.old).isPt hj).ld rfl) ?_)
      refine WL.op rfl (opW.add rfl rfl (nadd (by omega)) ?_)
      refine WL.op rfl (opW.assignI rfl ?_)
      refine WL.nil ?_
      refine blockQ_n ?_
      refine thenQ_n (hK7 _ _ ?_)
      refine WC.region ?_
      refine WL.op rfl (opW.moveI rfl ?_)
      refine WL.op rfl (opW.sub rfl rfl (wrap_i64 (by omega)) ?_)
      refine WL.op rfl (opW.assignI rfl ?_)
      refine WL.nil ?_
      refine thenQ_n ?_
      exact ⟨j, by omega, j, (j : Int) - 1, ⟨rfl, congrArg (fun n : Nat => Value.int .u64 (n : Int)) hv.symm, rfl, trivial⟩, hS, by omega, rfl, rfl⟩
    ·
      have hr0 := hc0
      try simp only [decide_eq_true_eq, decide_eq_false_iff_not, Bool.and_eq_true, Bool.or_eq_true, Bool.and_eq_false_iff, Bool.or_eq_false_iff, Bool.not_eq_true', Bool.not_eq_false', Int.not_lt, Int.not_le] at hc0
      refine WC.exit ?_
      refine thenQ_e ?_
      refine thenQ_e ?_
      refine blockQ_hit ?_
      refine thenQ_n (hK3 _ _ ?_)
      refine WC.seq (fun K8 hK8 => ?_)
      refine WC.region ?_
      refine WL.op rfl (opW.moveI rfl ?_)
      refine WL.op rfl (opW.assignI rfl ?_)
      refine WL.nil ?_
      refine thenQ_n (hK8 _ _ ?_)
      refine WC.ret ?_
      refine bodyQ_ret (.tmpI rfl .nil) ?_
      obtain rfl : m = 0 := by omega
      exact ⟨rfl, hS.old⟩

theorem product_ok (w0 : World) (a b : Nat) (ha : a < 18446744073709551616) (hb : b < 18446744073709551616) : Ret Try.prog 22 #[.int .u64 ((a : Nat) : Int), .int .u64 ((b : Nat) : Int)] w0 (fun u w' => ∃ o : List U64, o.length = 8 ∧ OkD o ∧ valL o = a * b ∧ New w0 w' u 34 o ∧ Bel w0 w') := by
  refine Ret.enter (args := [.int .u64 ((a : Nat) : Int), .int .u64 ((b : Nat) : Int)]) Try.func22 rfl Try.ntmps22 Try.results22 rfl ?_
  have hS := St.start w0
  refine WC.seq (fun K1 hK1 => ?_)
  refine WC.region ?_
  refine WL.op rfl (opW.assignV (v := .slice none 0 0) rfl ?_)
  refine WL.nil ?_
  refine thenQ_n (hK1 _ _ ?_)
  refine WC.seq (fun K2 hK2 => ?_)
  refine WC.region ?_
  refine WL.op rfl (opW.moveI rfl ?_)
  refine WL.op rfl (opW.call (digits_ok _ a ha) rfl ?_)
  rintro v13 w h13; replace hS := hS.newOwn h13.2 h13.1.1 h13.1.2
  refine WL.op rfl (opW.assignV (v := v13) rfl ?_)
  refine WL.nil ?_
  refine thenQ_n (hK2 _ _ ?_)
  refine WC.seq (fun K3 hK3 => ?_)
  refine WC.region ?_
  refine WL.op rfl (opW.moveI rfl ?_)
  refine WL.op rfl (opW.call (digits_ok _ b hb) rfl ?_)
  rintro v15 w h15; replace hS := hS.newOwn h15.2 h15.1.1 h15.1.2
  refine WL.op rfl (opW.assignV (v := v15) rfl ?_)
  refine WL.nil ?_
  refine thenQ_n (hK3 _ _ ?_)
  refine WC.seq (fun K4 hK4 => ?_)
  refine WC.region ?_
  refine WL.op rfl (opW.makeSl (α := U64) (n := 8) (⟨0⟩ : U64) (by rfl) hS rfl rfl (by omega) (by decide) ?_)
  intro b16 w _ hS
  refine WL.op rfl (opW.assignV (v := (.slice (some ⟨b16, 0, none⟩) 8 8)) rfl ?_)
  refine WL.nil ?_
  refine thenQ_n (hK4 _ _ ?_)
  refine WC.seq (fun K5 hK5 => ?_)
  refine WC.seq (fun K6 hK6 => ?_)
  refine WC.region ?_
  refine WL.op rfl (opW.assignI rfl ?_)
  refine WL.nil ?_
  refine thenQ_n (hK6 _ _ ?_)
  refine WC.block ?_
  refine WC.loop (fun q f w => ∃ (i : Nat) (o : List U64), Fits [(5, v13), (6, v15), (7, (.slice (some ⟨b16, 0, none⟩) 8 8)), (8, .int .i64 (i : Int))] f ∧ St w0 [ownE (.slice (some ⟨b16, 0, none⟩) 8 8) 34 o, ownE v15 34 (digL b 4), ownE v13 34 (digL a 4)] w ∧ o.length = 8 ∧ OkD o ∧ (∀ j (hj : j < o.length), i + 4 ≤ j → o[j].n = 0) ∧ valL o = (a % 65536 ^ i) * b ∧ i ≤ 4 ∧ q = 4 - i) (4) ?_ ?_
  ·
    exact ⟨0, List.replicate 8 ⟨0⟩, ⟨rfl, rfl, rfl, rfl, trivial⟩, hS, rfl, (by intro x hx; rw [List.eq_of_mem_replicate hx]; decide), (by intro j hj _; rw [List.getElem_replicate]), (by rw [rep_val, Nat.pow_zero, Nat.mod_one, Nat.zero_mul]), Nat.zero_le _, rfl⟩
  ·
    rintro q f w ⟨i, o, hfit, hS, ho8, hod, ho0, hov, hi4, hq⟩
    refine WC.fits _ hfit (fun g => ?_)
    clear hfit
    refine WC.seq (fun K7 hK7 => ?_)
    refine WC.seq (fun K8 hK8 => ?_)
    refine WC.region ?_
    refine WL.op rfl (opW.moveI rfl ?_)
    refine WL.op rfl (opW.lss rfl rfl ?_)
    refine WL.nil ?_
    refine thenQ_n (hK8 _ _ ?_)
    refine WC.cond _ rfl (fun hc0 => ?_) (fun hc0 => ?_)
    ·
      have hr0 := hc0
      try simp only [decide_eq_true_eq, decide_eq_false_iff_not, Bool.and_eq_true, Bool.or_eq_true, Bool.and_eq_false_iff, Bool.or_eq_false_iff, Bool.not_eq_true', Bool.not_eq_false', Int.not_lt, Int.not_le] at hc0
      have hil : i < 4 := by omega
      refine WC.skip ?_
      refine thenQ_n (hK7 _ _ ?_)
      refine WC.seq (fun K9 hK9 => ?_)
      refine WC.block ?_
      refine WC.seq (fun K10 hK10 => ?_)
      refine WC.region ?_
      refine WL.op rfl (opW.assignI rfl ?_)
      refine WL.nil ?_
      refine thenQ_n (hK10 _ _ ?_)
      refine WC.seq (fun K11 hK11 => ?_)
      refine WC.seq (fun K12 hK12 => ?_)
      refine WC.region ?_
      refine WL.op rfl (opW.assignI rfl ?_)
      refine WL.nil ?_
      refine thenQ_n (hK12 _ _ ?_)
      refine WC.block ?_
      refine WC.loop (fun q f w => ∃ (k c : Nat) (o : List U64), Fits [(5, v13), (6, v15), (7, (.slice (some ⟨b16, 0, none⟩) 8 8)), (8, .int .i64 (i : Int)), (9, .int .u64 ((c : Nat) : Int)), (10, .int .i64 (k : Int))] f ∧ St w0 [ownE (.slice (some ⟨b16, 0, none⟩) 8 8) 34 o, ownE v15 34 (digL b 4), ownE v13 34 (digL a 4)] w ∧ o.length = 8 ∧ OkD o ∧ (∀ j (hj : j < o.length), i + 4 ≤ j → o[j].n = 0) ∧ c < 65536 ∧ valL o + c * 65536 ^ (i + k) = (a % 65536 ^ i) * b + (a / 65536 ^ i % 65536) * 65536 ^ i * (b % 65536 ^ k) ∧ k ≤ 4 ∧ q = 4 - k) (4) ?_ ?_
      ·
        exact ⟨0, 0, o, ⟨rfl, rfl, rfl, rfl, rfl, rfl, trivial⟩, hS, ho8, hod, ho0, by decide, (by rw [Nat.zero_mul, Nat.pow_zero, Nat.mod_one, Nat.mul_zero]; exact hov), Nat.zero_le _, rfl⟩
      ·
        rintro q f w ⟨k, c, o, hfit, hS, ho8, hod, ho0, hc, hov, hk4, hq⟩
        refine WC.fits _ hfit (fun g => ?_)
        clear hfit
        refine WC.seq (fun K13 hK13 => ?_)
        refine WC.seq (fun K14 hK14 => ?_)
        refine WC.region ?_
        refine WL.op rfl (opW.moveI rfl ?_)
        refine WL.op rfl (opW.lss rfl rfl ?_)
        refine WL.nil ?_
        refine thenQ_n (hK14 _ _ ?_)
        refine WC.cond _ rfl (fun hc1 => ?_) (fun hc1 => ?_)
        ·
          have hr1 := hc1
          try simp only [decide_eq_true_eq, decide_eq_false_iff_not, Bool.and_eq_true, Bool.or_eq_true, Bool.and_eq_false_iff, Bool.or_eq_false_iff, Bool.not_eq_true', Bool.not_eq_false', Int.not_lt, Int.not_le] at hc1
          have hkl : k < 4 := by omega
          have hik : i + k < o.length := by omega
          have hda : i < (digL a 4).length := by rw [digL_len]; exact hil
          have hdb : k < (digL b 4).length := by rw [digL_len]; exact hkl
          have hxa : (digL a 4)[i].n = a / 65536 ^ i % 65536 := by rw [digL_get]
          have hxb : (digL b 4)[k].n = b / 65536 ^ k % 65536 := by rw [digL_get]
          obtain ⟨n, hn⟩ : ∃ n, n = o[i + k].n + a / 65536 ^ i % 65536 * (b / 65536 ^ k % 65536) + c := ⟨_, rfl⟩
          have hnl := prod_n (hod _ (List.getElem_mem hik)) (Nat.mod_lt (a / 65536 ^ i) (by decide)) (Nat.mod_lt (b / 65536 ^ k) (by decide)) hc
          rw [← hn] at hnl
          have hst := valL_set o (i + k) hik (n % 65536)
          have hstep := prod_step hn hov (Nat.pow_add 65536 i k) (mod_step b k) hst
          rw [← Nat.pow_succ] at hstep
          refine WC.skip ?_
          refine thenQ_n (hK13 _ _ ?_)
          refine WC.seq (fun K15 hK15 => ?_)
          refine WC.block ?_
          refine WC.seq (fun K16 hK16 => ?_)
          refine WC.draw 19 (.look 0 (.look 1 (.look 2 (.look 3 (.look 4 (.look 5 (.look 6 (.look 7 (.look 8 (.look 9 (.look 10 (.look 11 (.look 12 (.look 13 (.look 14 (.look 15 (.look 16 (.look 17 (.look 18 .nil))))))))))))))))))) (by kernel_rfl) (fun _ _ _ h => h) (fun w1 hw1 => ?_)
          replace hS := hS.bel hw1
          have hS1 := hS
          have hT := St.start w1
          refine ML.look rfl rfl rfl (fun w hw => (by have hS := hS1.bel hw; exact opW.moveV (v := (.slice (some ⟨b16, 0, none⟩) 8 8)) rfl ⟨rfl, rfl⟩)) ?_
          refine ML.look rfl rfl rfl (fun w hw => (by have hS := hS1.bel hw; exact opW.moveI rfl ⟨rfl, rfl⟩)) ?_
          refine ML.look rfl rfl rfl (fun w hw => (by have hS := hS1.bel hw; exact opW.moveI rfl ⟨rfl, rfl⟩)) ?_
          refine ML.look rfl rfl rfl (fun w hw => (by have hS := hS1.bel hw; exact opW.add rfl rfl (wrap_i64 (by omega)) ⟨rfl, rfl⟩)) ?_
          refine ML.look rfl rfl rfl (fun w hw => (by have hS := hS1.bel hw; exact opW.idxV rfl (hS.sl (v := (.slice (some ⟨b16, 0, none⟩) 8 8)) (xs := o) (by first | exact .here | exact .there (.here) | exact .there (.there (.here)) | exact .there (.there (.there (.here))) | exact .there (.there (.there (.there (.here)))) | exact .there (.there (.there (.there (.there (.here))))) | exact .there (.there (.there (.there (.there (.there (.here)))))) | exact .there (.there (.there (.there (.there (.there (.there (.here))))))) | exact .there (.there (.there (.there (.there (.there (.there (.there (.here)))))))) | exact .there (.there (.there (.there (.there (.there (.there (.there (.there (.here))))))))) | exact .there (.there (.there (.there (.there (.there (.there (.there (.there (.there (.here)))))))))) | exact .there (.there (.there (.there (.there (.there (.there (.there (.there (.there (.there (.here))))))))))) | exact .there (.there (.there (.there (.there (.there (.there (.there (.there (.there (.there (.there (.here)))))))))))))) rfl (by omega) ⟨rfl, rfl⟩)) ?_
          refine ML.look rfl rfl rfl (fun w hw => (by have hS := hS1.bel hw; exact opW.loadV rfl (((hS.sl (v := (.slice (some ⟨b16, 0, none⟩) 8 8)) (xs := o) (by first | exact .here | exact .there (.here) | exact .there (.there (.here)) | exact .there (.there (.there (.here))) | exact .there (.there (.there (.there (.here)))) | exact .there (.there (.there (.there (.there (.here))))) | exact .there (.there (.there (.there (.there (.there (.here)))))) | exact .there (.there (.there (.there (.there (.there (.there (.here))))))) | exact .there (.there (.there (.there (.there (.there (.there (.there (.here)))))))) | exact .there (.there (.there (.there (.there (.there (.there (.there (.there (.here))))))))) | exact .there (.there (.there (.there (.there (.there (.there (.there (.there (.there (.here)))))))))) | exact .there (.there (.there (.there (.there (.there (.there (.there (.there (.there (.there (.here))))))))))) | exact .there (.there (.there (.there (.there (.there (.there (.there (.there (.there (.there (.there (.here)))))))))))))).isPt hik).ld rfl) ⟨rfl, rfl⟩)) ?_
          refine ML.look rfl rfl rfl (fun w hw => (by have hS := hS1.bel hw; exact opW.moveV (v := v13) rfl ⟨rfl, rfl⟩)) ?_
          refine ML.look rfl rfl rfl (fun w hw => (by have hS := hS1.bel hw; exact opW.moveI rfl ⟨rfl, rfl⟩)) ?_
          refine ML.look rfl rfl rfl (fun w hw => (by have hS := hS1.bel hw; exact opW.idxV rfl (hS.sl (v := v13) (xs := (digL a 4)) (by first | exact .here | exact .there (.here) | exact .there (.there (.here)) | exact .there (.there (.there (.here))) | exact .there (.there (.there (.there (.here)))) | exact .there (.there (.there (.there (.there (.here))))) | exact .there (.there (.there (.there (.there (.there (.here)))))) | exact .there (.there (.there (.there (.there (.there (.there (.here))))))) | exact .there (.there (.there (.there (.there (.there (.there (.there (.here)))))))) | exact .there (.there (.there (.there (.there (.there (.there (.there (.there (.here))))))))) | exact .there (.there (.there (.there (.there (.there (.there (.there (.there (.there (.here)))))))))) | exact .there (.there (.there (.there (.there (.there (.there (.there (.there (.there (.there (.here))))))))))) | exact .there (.there (.there (.there (.there (.there (.there (.there (.there (.there (.there (.there (.here)))))))))))))) rfl (by omega) ⟨rfl, rfl⟩)) ?_
          refine ML.look rfl rfl rfl (fun w hw => (by have hS := hS1.bel hw; exact opW.loadV rfl (((hS.sl (v := v13) (xs := (digL a 4)) (by first | exact .here | exact .there (.here) | exact .there (.there (.here)) | exact .there (.there (.there (.here))) | exact .there (.there (.there (.there (.here)))) | exact .there (.there (.there (.there (.there (.here))))) | exact .there (.there (.there (.there (.there (.there (.here)))))) | exact .there (.there (.there (.there (.there (.there (.there (.here))))))) | exact .there (.there (.there (.there (.there (.there (.there (.there (.here)))))))) | exact .there (.there (.there (.there (.there (.there (.there (.there (.there (.here))))))))) | exact .there (.there (.there (.there (.there (.there (.there (.there (.there (.there (.here)))))))))) | exact .there (.there (.there (.there (.there (.there (.there (.there (.there (.there (.there (.here))))))))))) | exact .there (.there (.there (.there (.there (.there (.there (.there (.there (.there (.there (.there (.here)))))))))))))).isPt hda).ld (show (Enc.enc (digL a 4)[i])[0]? = some (.int .u64 ((a / 65536 ^ i % 65536 : Nat) : Int)) from by rw [← hxa]; rfl)) ⟨rfl, rfl⟩)) ?_
          refine ML.look rfl rfl rfl (fun w hw => (by have hS := hS1.bel hw; exact opW.moveV (v := v15) rfl ⟨rfl, rfl⟩)) ?_
          refine ML.look rfl rfl rfl (fun w hw => (by have hS := hS1.bel hw; exact opW.moveI rfl ⟨rfl, rfl⟩)) ?_
          refine ML.look rfl rfl rfl (fun w hw => (by have hS := hS1.bel hw; exact opW.idxV rfl (hS.sl (v := v15) (xs := (digL b 4)) (by first | exact .here | exact .there (.here) | exact .there (.there (.here)) | exact .there (.there (.there (.here))) | exact .there (.there (.there (.there (.here)))) | exact .there (.there (.there (.there (.there (.here))))) | exact .there (.there (.there (.there (.there (.there (.here)))))) | exact .there (.there (.there (.there (.there (.there (.there (.here))))))) | exact .there (.there (.there (.there (.there (.there (.there (.there (.here)))))))) | exact .there (.there (.there (.there (.there (.there (.there (.there (.there (.here))))))))) | exact .there (.there (.there (.there (.there (.there (.there (.there (.there (.there (.here)))))))))) | exact .there (.there (.there (.there (.there (.there (.there (.there (.there (.there (.there (.here))))))))))) | exact .there (.there (.there (.there (.there (.there (.there (.there (.there (.there (.there (.there (.here)))))))))))))) rfl (by omega) ⟨rfl, rfl⟩)) ?_
          refine ML.look rfl rfl rfl (fun w hw => (by have hS := hS1.bel hw; exact opW.loadV rfl (((hS.sl (v := v15) (xs := (digL b 4)) (by first | exact .here | exact .there (.here) | exact .there (.there (.here)) | exact .there (.there (.there (.here))) | exact .there (.there (.there (.there (.here)))) | exact .there (.there (.there (.there (.there (.here))))) | exact .there (.there (.there (.there (.there (.there (.here)))))) | exact .there (.there (.there (.there (.there (.there (.there (.here))))))) | exact .there (.there (.there (.there (.there (.there (.there (.there (.here)))))))) | exact .there (.there (.there (.there (.there (.there (.there (.there (.there (.here))))))))) | exact .there (.there (.there (.there (.there (.there (.there (.there (.there (.there (.here)))))))))) | exact .there (.there (.there (.there (.there (.there (.there (.there (.there (.there (.there (.here))))))))))) | exact .there (.there (.there (.there (.there (.there (.there (.there (.there (.there (.there (.there (.here)))))))))))))).isPt hdb).ld (show (Enc.enc (digL b 4)[k])[0]? = some (.int .u64 ((b / 65536 ^ k % 65536 : Nat) : Int)) from by rw [← hxb]; rfl)) ⟨rfl, rfl⟩)) ?_
          refine ML.look rfl rfl rfl (fun w hw => (by have hS := hS1.bel hw; exact opW.mul rfl rfl (nmul (by omega)) ⟨rfl, rfl⟩)) ?_
          refine ML.look rfl rfl rfl (fun w hw => (by have hS := hS1.bel hw; exact opW.add rfl rfl (nadd (by omega)) ⟨rfl, rfl⟩)) ?_
          refine ML.look rfl rfl rfl (fun w hw => (by have hS := hS1.bel hw; exact opW.moveI rfl ⟨rfl, rfl⟩)) ?_
          refine ML.look rfl rfl rfl (fun w hw => (by have hS := hS1.bel hw; exact opW.add rfl rfl ((nadd (by omega)).trans (ncast hn.symm)) ⟨rfl, rfl⟩)) ?_
          refine ML.look rfl rfl rfl (fun w hw => (by have hS := hS1.bel hw; exact opW.assignI rfl ⟨rfl, rfl⟩)) ?_
          refine ML.nil ?_
          refine thenQ_n (hK16 _ _ ?_)
          refine WC.seq (fun K17 hK17 => ?_)
          refine WC.region ?_
          refine WL.op rfl (opW.moveV (v := (.slice (some ⟨b16, 0, none⟩) 8 8)) rfl ?_)
          refine WL.op rfl (opW.moveI rfl ?_)
          refine WL.op rfl (opW.moveI rfl ?_)
          refine WL.op rfl (opW.add rfl rfl (wrap_i64 (by omega)) ?_)
          refine WL.op rfl (opW.moveI rfl ?_)
          refine WL.op rfl (opW.rem rfl rfl (by omega) (nmod16 n) ?_)
          refine WL.op rfl (opW.idxV rfl (hS.sl (v := (.slice (some ⟨b16, 0, none⟩) 8 8)) (xs := o) (by first | exact .here | exact .there (.here) | exact .there (.there (.here)) | exact .there (.there (.there (.here))) | exact .there (.there (.there (.there (.here)))) | exact .there (.there (.there (.there (.there (.here))))) | exact .there (.there (.there (.there (.there (.there (.here)))))) | exact .there (.there (.there (.there (.there (.there (.there (.here))))))) | exact .there (.there (.there (.there (.there (.there (.there (.there (.here)))))))) | exact .there (.there (.there (.there (.there (.there (.there (.there (.there (.here))))))))) | exact .there (.there (.there (.there (.there (.there (.there (.there (.there (.there (.here)))))))))) | exact .there (.there (.there (.there (.there (.there (.there (.there (.there (.there (.there (.here))))))))))) | exact .there (.there (.there (.there (.there (.there (.there (.there (.there (.there (.there (.there (.here)))))))))))))) rfl (by omega) ?_)
          refine WL.op0 (opW.storeOwn (v := (.slice (some ⟨b16, 0, none⟩) 8 8)) (u := .int .u64 ((n % 65536 : Nat) : Int)) (xs := o) (i := i + k) (off := 0) (y' := ⟨n % 65536⟩) hS (by first | exact .here | exact .there (.here) | exact .there (.there (.here)) | exact .there (.there (.there (.here))) | exact .there (.there (.there (.there (.here)))) | exact .there (.there (.there (.there (.there (.here))))) | exact .there (.there (.there (.there (.there (.there (.here)))))) | exact .there (.there (.there (.there (.there (.there (.there (.here))))))) | exact .there (.there (.there (.there (.there (.there (.there (.there (.here)))))))) | exact .there (.there (.there (.there (.there (.there (.there (.there (.there (.here))))))))) | exact .there (.there (.there (.there (.there (.there (.there (.there (.there (.there (.here)))))))))) | exact .there (.there (.there (.there (.there (.there (.there (.there (.there (.there (.there (.here))))))))))) | exact .there (.there (.there (.there (.there (.there (.there (.there (.there (.there (.there (.there (.here))))))))))))) (by omega) (ptrAdd_zero (.slice (some ⟨b16, 0, none⟩) 8 8) (i + k) (Enc.sz U64)).symm rfl (by rfl) (by decide) (Enc.one (⟨n % 65536⟩ : U64)) (spl_all (by rfl)) ?_)
          intro w hS; replace hS := hS _ (by first | exact .here | exact .there (.here) | exact .there (.there (.here)) | exact .there (.there (.there (.here))) | exact .there (.there (.there (.there (.here)))) | exact .there (.there (.there (.there (.there (.here))))) | exact .there (.there (.there (.there (.there (.there (.here)))))) | exact .there (.there (.there (.there (.there (.there (.there (.here))))))) | exact .there (.there (.there (.there (.there (.there (.there (.there (.here)))))))) | exact .there (.there (.there (.there (.there (.there (.there (.there (.there (.here))))))))) | exact .there (.there (.there (.there (.there (.there (.there (.there (.there (.there (.here)))))))))) | exact .there (.there (.there (.there (.there (.there (.there (.there (.there (.there (.there (.here))))))))))) | exact .there (.there (.there (.there (.there (.there (.there (.there (.there (.there (.there (.there (.here)))))))))))))
          refine WL.nil ?_
          refine thenQ_n (hK17 _ _ ?_)
          refine WC.region ?_
          refine WL.op rfl (opW.moveI rfl ?_)
          refine WL.op rfl (opW.quo rfl rfl (by omega) (nquo16 (by omega)) ?_)
          refine WL.op rfl (opW.assignI rfl ?_)
          refine WL.nil ?_
          refine blockQ_n ?_
          refine thenQ_n (hK15 _ _ ?_)
          refine WC.region ?_
          refine WL.op rfl (opW.moveI rfl ?_)
          refine WL.op rfl (opW.add rfl rfl (wrap_i64 (by omega)) ?_)
          refine WL.op rfl (opW.assignI rfl ?_)
          refine WL.nil ?_
          refine thenQ_n ?_
          exact ⟨4 - (k + 1), by omega, k + 1, n / 65536, o.set (i + k) ⟨n % 65536⟩, ⟨rfl, rfl, rfl, rfl, rfl, congrArg (Value.int .i64) (by omega), trivial⟩, hS, (by rw [List.length_set]; exact ho8), okD_set hod _ (Nat.mod_lt _ (by decide)), (by intro j hj h; rw [List.getElem_set_ne (by omega)]; exact ho0 j _ (by omega)), hnl.2, hstep, by omega, rfl⟩
        ·
          have hr1 := hc1
          try simp only [decide_eq_true_eq, decide_eq_false_iff_not, Bool.and_eq_true, Bool.or_eq_true, Bool.and_eq_false_iff, Bool.or_eq_false_iff, Bool.not_eq_true', Bool.not_eq_false', Int.not_lt, Int.not_le] at hc1
          obtain rfl : k = 4 := by omega
          have hik : i + 4 < o.length := by omega
          have hst := valL_set o (i + 4) hik c
          rw [ho0 _ hik (Nat.le_refl _), Nat.zero_mul, Nat.add_zero] at hst
          have hfin : valL (o.set (i + 4) ⟨c⟩) = a % 65536 ^ (i + 1) * b := by
            rw [hst, hov, mod_step a i, Nat.mod_eq_of_lt (show b < 65536 ^ 4 by omega), Nat.add_mul]
          refine WC.exit ?_
          refine thenQ_e ?_
          refine thenQ_e ?_
          refine blockQ_hit ?_
          refine thenQ_n (hK11 _ _ ?_)
          refine WC.region ?_
          refine WL.op rfl (opW.moveV (v := (.slice (some ⟨b16, 0, none⟩) 8 8)) rfl ?_)
          refine WL.op rfl (opW.moveI rfl ?_)
          refine WL.op rfl (opW.add rfl rfl (wrap_i64 (by omega)) ?_)
          refine WL.op rfl (opW.moveI rfl ?_)
          refine WL.op rfl (opW.idxV rfl (hS.sl (v := (.slice (some ⟨b16, 0, none⟩) 8 8)) (xs := o) (by first | exact .here | exact .there (.here) | exact .there (.there (.here)) | exact .there (.there (.there (.here))) | exact .there (.there (.there (.there (.here)))) | exact .there (.there (.there (.there (.there (.here))))) | exact .there (.there (.there (.there (.there (.there (.here)))))) | exact .there (.there (.there (.there (.there (.there (.there (.here))))))) | exact .there (.there (.there (.there (.there (.there (.there (.there (.here)))))))) | exact .there (.there (.there (.there (.there (.there (.there (.there (.there (.here))))))))) | exact .there (.there (.there (.there (.there (.there (.there (.there (.there (.there (.here)))))))))) | exact .there (.there (.there (.there (.there (.there (.there (.there (.there (.there (.there (.here))))))))))) | exact .there (.there (.there (.there (.there (.there (.there (.there (.there (.there (.there (.there (.here)))))))))))))) rfl (by omega) ?_)
          refine WL.op0 (opW.storeOwn (v := (.slice (some ⟨b16, 0, none⟩) 8 8)) (u := .int .u64 ((c : Nat) : Int)) (xs := o) (i := i + 4) (off := 0) (y' := ⟨c⟩) hS (by first | exact .here | exact .there (.here) | exact .there (.there (.here)) | exact .there (.there (.there (.here))) | exact .there (.there (.there (.there (.here)))) | exact .there (.there (.there (.there (.there (.here))))) | exact .there (.there (.there (.there (.there (.there (.here)))))) | exact .there (.there (.there (.there (.there (.there (.there (.here))))))) | exact .there (.there (.there (.there (.there (.there (.there (.there (.here)))))))) | exact .there (.there (.there (.there (.there (.there (.there (.there (.there (.here))))))))) | exact .there (.there (.there (.there (.there (.there (.there (.there (.there (.there (.here)))))))))) | exact .there (.there (.there (.there (.there (.there (.there (.there (.there (.there (.there (.here))))))))))) | exact .there (.there (.there (.there (.there (.there (.there (.there (.there (.there (.there (.there (.here))))))))))))) (by omega) (ptrAdd_zero (.slice (some ⟨b16, 0, none⟩) 8 8) (i + 4) (Enc.sz U64)).symm rfl (by rfl) (by decide) (Enc.one (⟨c⟩ : U64)) (spl_all (by rfl)) ?_)
          intro w hS; replace hS := hS _ (by first | exact .here | exact .there (.here) | exact .there (.there (.here)) | exact .there (.there (.there (.here))) | exact .there (.there (.there (.there (.here)))) | exact .there (.there (.there (.there (.there (.here))))) | exact .there (.there (.there (.there (.there (.there (.here)))))) | exact .there (.there (.there (.there (.there (.there (.there (.here))))))) | exact .there (.there (.there (.there (.there (.there (.there (.there (.here)))))))) | exact .there (.there (.there (.there (.there (.there (.there (.there (.there (.here))))))))) | exact .there (.there (.there (.there (.there (.there (.there (.there (.there (.there (.here)))))))))) | exact .there (.there (.there (.there (.there (.there (.there (.there (.there (.there (.there (.here))))))))))) | exact .there (.there (.there (.there (.there (.there (.there (.there (.there (.there (.there (.there (.here)))))))))))))
          refine WL.nil ?_
          refine blockQ_n ?_
          refine thenQ_n (hK9 _ _ ?_)
          refine WC.region ?_
          refine WL.op rfl (opW.moveI rfl ?_)
          refine WL.op rfl (opW.add rfl rfl (wrap_i64 (by omega)) ?_)
          refine WL.op rfl (opW.assignI rfl ?_)
          refine WL.nil ?_
          refine thenQ_n ?_
          exact ⟨4 - (i + 1), by omega, i + 1, o.set (i + 4) ⟨c⟩, ⟨rfl, rfl, rfl, congrArg (Value.int .i64) (by omega), trivial⟩, hS, (by rw [List.length_set]; exact ho8), okD_set hod _ hc, (by intro j hj h; rw [List.getElem_set_ne (by omega)]; exact ho0 j _ (by omega)), hfin, by omega, rfl⟩
    ·
      have hr0 := hc0
      try simp only [decide_eq_true_eq, decide_eq_false_iff_not, Bool.and_eq_true, Bool.or_eq_true, Bool.and_eq_false_iff, Bool.or_eq_false_iff, Bool.not_eq_true', Bool.not_eq_false', Int.not_lt, Int.not_le] at hc0
      obtain rfl : i = 4 := by omega
      rw [Nat.mod_eq_of_lt (show a < 65536 ^ 4 by omega)] at hov
      refine WC.exit ?_
      refine thenQ_e ?_
      refine thenQ_e ?_
      refine blockQ_hit ?_
      refine thenQ_n (hK5 _ _ ?_)
      refine WC.seq (fun K18 hK18 => ?_)
      refine WC.region ?_
      refine WL.op rfl (opW.moveV (v := (.slice (some ⟨b16, 0, none⟩) 8 8)) rfl ?_)
      refine WL.op rfl (opW.assignV (v := (.slice (some ⟨b16, 0, none⟩) 8 8)) rfl ?_)
      refine WL.nil ?_
      refine thenQ_n (hK18 _ _ ?_)
      refine WC.ret ?_
      refine bodyQ_ret (.tmpV (v := (.slice (some ⟨b16, 0, none⟩) 8 8)) rfl .nil) ?_
      exact ⟨o, ho8, hod, hov, hS.own_new (by first | exact .here | exact .there (.here) | exact .there (.there (.here)) | exact .there (.there (.there (.here))) | exact .there (.there (.there (.there (.here)))) | exact .there (.there (.there (.there (.there (.here))))) | exact .there (.there (.there (.there (.there (.there (.here)))))) | exact .there (.there (.there (.there (.there (.there (.there (.here))))))) | exact .there (.there (.there (.there (.there (.there (.there (.there (.here)))))))) | exact .there (.there (.there (.there (.there (.there (.there (.there (.there (.here))))))))) | exact .there (.there (.there (.there (.there (.there (.there (.there (.there (.there (.here)))))))))) | exact .there (.there (.there (.there (.there (.there (.there (.there (.there (.there (.there (.here))))))))))) | exact .there (.there (.there (.there (.there (.there (.there (.there (.there (.there (.there (.there (.here))))))))))))), hS.old⟩

end Go.Fer
