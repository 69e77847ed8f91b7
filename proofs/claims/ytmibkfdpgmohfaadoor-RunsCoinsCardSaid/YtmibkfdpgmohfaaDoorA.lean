/- numbers -/
import Derived.Test.YtmibkfdpgmohfaaDoorR
set_option linter.all false
namespace Go.Fer
open Go Go.Proofs Go.RowKit

/-- the number that bytes are, the lowest first -/
def leN : List UInt8 → Nat
  | [] => 0
  | c :: r => c.toNat + 256 * leN r
theorem leN_append (a b : List UInt8) : leN (a ++ b) = leN a + 2 ^ (8 * a.length) * leN b := by
  induction a with
  | nil => simp [leN]
  | cons c r ih =>
    simp only [List.cons_append, leN, ih, List.length_cons]
    rw [show 8 * (r.length + 1) = 8 * r.length + 8 by omega, Nat.pow_add, Nat.mul_add]
    have : 256 * (2 ^ (8 * r.length) * leN b) = 2 ^ (8 * r.length) * 2 ^ 8 * leN b := by rw [← Nat.mul_assoc, Nat.mul_comm 256]
    omega
theorem leN_lt (l : List UInt8) : leN l < 2 ^ (8 * l.length) := by
  induction l with
  | nil => simp [leN]
  | cons c r ih =>
    have := u8_lt c
    simp only [leN, List.length_cons]
    rw [show 8 * (r.length + 1) = 8 * r.length + 8 by omega, Nat.pow_add]
    omega
theorem leN_take {b : List UInt8} {k : Nat} (hk : k < b.length) : leN (b.take (k + 1)) = leN (b.take k) + b[k].toNat * 2 ^ (8 * k) := by
  rw [List.take_succ_eq_append_getElem hk, leN_append, List.length_take, Nat.min_eq_left (by omega)]
  simp [leN, Nat.mul_comm]
theorem leN_drop {b : List UInt8} {k m : Nat} (hm : m ≤ b.length) (hk : k < m) : leN ((b.take m).drop k) = b[k].toNat + 256 * leN ((b.take m).drop (k + 1)) := by
  rw [List.drop_eq_getElem_cons (by simp; omega)]
  simp [leN]
theorem leN_take_lt (b : List UInt8) (k : Nat) : leN (b.take k) < 2 ^ (8 * k) :=
  Nat.lt_of_lt_of_le (leN_lt _) (Nat.pow_le_pow_right (by omega) (by simp; omega))
theorem le_shl {c : UInt8} {k : Nat} (hk : k ≤ 7) : IntKind.u64.wrap ((c.toNat : Int) * 2 ^ (min (Int.toNat (8 * (k : Int))) IntKind.u64.bits)) = ((c.toNat * 2 ^ (8 * k) : Nat) : Int) := by
  have e : (8 * (k : Int)) = ((8 * k : Nat) : Int) := by omega
  rw [e]
  have := u8_lt c
  have hb : c.toNat * 2 ^ (8 * k) ≤ 255 * 2 ^ 56 := Nat.mul_le_mul (by omega) (Nat.pow_le_pow_right (by omega) (by omega))
  refine shl_u64 (by omega) (by simp) (by omega)
theorem le_or {c : UInt8} {k n : Nat} (hk : k ≤ 7) (hn : n < 2 ^ (8 * k)) : bitsI .or .u64 (n : Int) ((c.toNat * 2 ^ (8 * k) : Nat) : Int) = ((n + c.toNat * 2 ^ (8 * k) : Nat) : Int) := by
  have := u8_lt c
  have hb : c.toNat * 2 ^ (8 * k) ≤ 255 * 2 ^ 56 := Nat.mul_le_mul (by omega) (Nat.pow_le_pow_right (by omega) (by omega))
  have hp : 2 ^ (8 * k) ≤ 2 ^ 56 := Nat.pow_le_pow_right (by omega) (by omega)
  rw [bits_or_u64 _ _ (by omega) (by omega), or_add_low _ _ _ hn]
/-- a number off bytes: number, error -/
def getR (b : List UInt8) (m : Int) : Nat × Int := if m < 1 ∨ 8 < m then (0, 1) else if (b.length : Int) < m then (0, 5) else (leN (b.take m.toNat), 0)
theorem getR_ok {b : List UInt8} {m : Nat} (h1 : 1 ≤ m) (h8 : m ≤ 8) (hl : m ≤ b.length) : getR b m = (leN (b.take m), 0) := by
  unfold getR; rw [if_neg (by omega), if_neg (by omega)]; simp

theorem get_le (w0 : World) (v : Value) (b : List UInt8) (many : Int) (hx : SlR w0 v b) : Ret Tryd.prog 52 #[v, .int .i64 many] w0 (fun u w' => u = .tuple #[.int .u64 ((getR b many).1 : Int), .int .i64 (getR b many).2] ∧ Bel w0 w') := by
  refine Ret.enter (args := [v, .int .i64 many]) Tryd.func52 rfl Tryd.ntmps52 Tryd.results52 rfl ?_
  have hS := St.start w0
  refine WC.seq (fun K1 hK1 => ?_)
  refine WC.region ?_
  refine WL.op rfl (opW.assignI rfl ?_)
  refine WL.op rfl (opW.assignI rfl ?_)
  refine WL.nil ?_
  refine thenQ_n (hK1 _ _ ?_)
  refine WC.seq (fun K2 hK2 => ?_)
  refine WC.block ?_
  refine WC.seq (fun K3 hK3 => ?_)
  refine WC.region ?_
  refine WL.op rfl (opW.moveI rfl ?_)
  refine WL.op rfl (opW.lss rfl rfl ?_)
  refine WL.op rfl (opW.moveB rfl ?_)
  refine WL.gd _ 10 _ rfl rfl rfl rfl (fun hg11 => opW.moveI rfl ⟨rfl, Bel.refl _⟩) (fun w hw => ?_)
  replace hS := hS.bel hw
  refine WL.gd _ 10 _ rfl rfl rfl rfl (fun hg12 => opW.gtr (by first | exact gv_of rfl hg12 | rfl) rfl ⟨rfl, Bel.refl _⟩) (fun w hw => ?_)
  replace hS := hS.bel hw
  refine WL.op rfl (opW.pickOr rfl rfl (by first | rfl) ?_)
  refine WL.op rfl (opW.assignB rfl ?_)
  refine WL.nil ?_
  refine thenQ_n (hK3 _ _ ?_)
  refine WC.cond _ rfl (fun hc0 => ?_) (fun hc0 => ?_)
  ·
    have hr0 := hc0
    try simp only [decide_eq_true_eq, decide_eq_false_iff_not, Bool.and_eq_true, Bool.or_eq_true, Bool.and_eq_false_iff, Bool.or_eq_false_iff, Bool.not_eq_true', Bool.not_eq_false', Int.not_lt, Int.not_le] at hc0
    refine WC.seq (fun K4 hK4 => ?_)
    refine WC.region ?_
    refine WL.op rfl (opW.assignI rfl ?_)
    refine WL.op rfl (opW.assignI rfl ?_)
    refine WL.nil ?_
    refine thenQ_n (hK4 _ _ ?_)
    refine WC.ret ?_
    refine blockQ_r ?_
    refine thenQ_r ?_
    refine bodyQ_ret (.tmpI rfl (.tmpI rfl .nil)) ?_
    refine ⟨?_, hS.old⟩
    rw [show getR b many = (0, 1) from if_pos hc0]
    rfl
  ·
    have hr0 := hc0
    try simp only [decide_eq_true_eq, decide_eq_false_iff_not, Bool.and_eq_true, Bool.or_eq_true, Bool.and_eq_false_iff, Bool.or_eq_false_iff, Bool.not_eq_true', Bool.not_eq_false', Int.not_lt, Int.not_le] at hc0
    refine WC.seq (fun K5 hK5 => ?_)
    refine WC.region ?_
    refine WL.op rfl (opW.moveV (v := v) rfl ?_)
    refine WL.op rfl (opW.lenV rfl ((hx.bel hS.old)) ?_)
    refine WL.op rfl (opW.moveI rfl ?_)
    refine WL.op rfl (opW.lss rfl rfl ?_)
    refine WL.op rfl (opW.assignB rfl ?_)
    refine WL.nil ?_
    refine thenQ_n (hK5 _ _ ?_)
    refine WC.cond _ rfl (fun hc1 => ?_) (fun hc1 => ?_)
    ·
      have hr1 := hc1
      try simp only [decide_eq_true_eq, decide_eq_false_iff_not, Bool.and_eq_true, Bool.or_eq_true, Bool.and_eq_false_iff, Bool.or_eq_false_iff, Bool.not_eq_true', Bool.not_eq_false', Int.not_lt, Int.not_le] at hc1
      refine WC.seq (fun K6 hK6 => ?_)
      refine WC.region ?_
      refine WL.op rfl (opW.assignI rfl ?_)
      refine WL.op rfl (opW.assignI rfl ?_)
      refine WL.nil ?_
      refine thenQ_n (hK6 _ _ ?_)
      refine WC.ret ?_
      refine blockQ_r ?_
      refine thenQ_r ?_
      refine bodyQ_ret (.tmpI rfl (.tmpI rfl .nil)) ?_
      refine ⟨?_, hS.old⟩
      rw [show getR b many = (0, 5) from by unfold getR; rw [if_neg (by omega), if_pos hc1]]
      rfl
    ·
      have hr1 := hc1
      try simp only [decide_eq_true_eq, decide_eq_false_iff_not, Bool.and_eq_true, Bool.or_eq_true, Bool.and_eq_false_iff, Bool.or_eq_false_iff, Bool.not_eq_true', Bool.not_eq_false', Int.not_lt, Int.not_le] at hc1
      obtain ⟨mm, rfl⟩ : ∃ mm : Nat, many = (mm : Int) := ⟨many.toNat, by omega⟩
      have hR := getR_ok (b := b) (m := mm) (by omega) (by omega) (by omega)
      rw [hR]
      refine WC.skip ?_
      refine blockQ_n ?_
      refine thenQ_n (hK2 _ _ ?_)
      refine WC.seq (fun K7 hK7 => ?_)
      refine WC.seq (fun K8 hK8 => ?_)
      refine WC.region ?_
      refine WL.op rfl (opW.moveI rfl ?_)
      refine WL.op rfl (opW.moveI rfl ?_)
      refine WL.nil ?_
      refine thenQ_n (hK8 _ _ ?_)
      refine WC.block ?_
      refine WC.loop (fun m f w => ∃ k : Nat, Fits [(0, v), (4, .int .u64 (leN (b.take k) : Int)), (19, .int .i64 (mm : Int)), (20, .int .i64 (k : Int))] f ∧ St w0 [] w ∧ k ≤ mm ∧ m = mm - k) (mm) ?_ ?_
      ·
        exact ⟨0, ⟨rfl, rfl, rfl, rfl, trivial⟩, hS, Nat.zero_le _, rfl⟩
      ·
        rintro m f w ⟨k, hfit, hS, hk, hm⟩
        refine WC.fits _ hfit (fun g => ?_)
        clear hfit
        refine WC.seq (fun K9 hK9 => ?_)
        refine WC.region ?_
        refine WL.op rfl (opW.lss rfl rfl ?_)
        refine WL.nil ?_
        refine thenQ_n (hK9 _ _ ?_)
        refine WC.seq (fun K10 hK10 => ?_)
        refine WC.cond _ rfl (fun hc2 => ?_) (fun hc2 => ?_)
        ·
          have hr2 := hc2
          try simp only [decide_eq_true_eq, decide_eq_false_iff_not, Bool.and_eq_true, Bool.or_eq_true, Bool.and_eq_false_iff, Bool.or_eq_false_iff, Bool.not_eq_true', Bool.not_eq_false', Int.not_lt, Int.not_le] at hc2
          have hkl : k < b.length := by omega
          have hlt := u8_lt b[k]
          refine WC.skip ?_
          refine thenQ_n (hK10 _ _ ?_)
          refine WC.seq (fun K11 hK11 => ?_)
          refine WC.block ?_
          refine WC.seq (fun K12 hK12 => ?_)
          refine WC.region ?_
          refine WL.op rfl (opW.moveI rfl ?_)
          refine WL.op rfl (opW.assignI rfl ?_)
          refine WL.nil ?_
          refine thenQ_n (hK12 _ _ ?_)
          refine WC.region ?_
          refine WL.op rfl (opW.moveI rfl ?_)
          refine WL.op rfl (opW.moveV (v := v) rfl ?_)
          refine WL.op rfl (opW.moveI rfl ?_)
          refine WL.op rfl (opW.idxV rfl ((hx.bel hS.old)) rfl (by omega) ?_)
          refine WL.op rfl (opW.loadV rfl (((hx.bel hS.old).isPt hkl).ld rfl) ?_)
          refine WL.op rfl (opW.conv rfl (wrap_u64 (by omega)) ?_)
          refine WL.op rfl (opW.moveI rfl ?_)
          refine WL.op rfl (opW.mul rfl rfl (wrap_i64 (by omega)) ?_)
          refine WL.op rfl (opW.shl rfl rfl (by omega) (le_shl (by omega)) ?_)
          refine WL.op rfl (opW.or rfl rfl (le_or (by omega) (leN_take_lt _ _)) ?_)
          refine WL.op rfl (opW.assignI rfl ?_)
          refine WL.nil ?_
          refine blockQ_n ?_
          refine thenQ_n (hK11 _ _ ?_)
          refine WC.region ?_
          refine WL.op rfl (opW.add rfl rfl (wrap_i64 (by omega)) ?_)
          refine WL.op rfl (opW.moveI rfl ?_)
          refine WL.nil ?_
          refine thenQ_n ?_
          refine ⟨mm - (k + 1), by omega, k + 1, ⟨rfl, congrArg (fun n : Nat => Value.int .u64 (n : Int)) (leN_take hkl).symm, rfl, congrArg (Value.int .i64) (by omega), trivial⟩, hS, by omega, rfl⟩
        ·
          have hr2 := hc2
          try simp only [decide_eq_true_eq, decide_eq_false_iff_not, Bool.and_eq_true, Bool.or_eq_true, Bool.and_eq_false_iff, Bool.or_eq_false_iff, Bool.not_eq_true', Bool.not_eq_false', Int.not_lt, Int.not_le] at hc2
          refine WC.exit ?_
          refine thenQ_e ?_
          refine thenQ_e ?_
          refine blockQ_hit ?_
          refine thenQ_n (hK7 _ _ ?_)
          refine WC.seq (fun K13 hK13 => ?_)
          refine WC.region ?_
          refine WL.op rfl (opW.moveI rfl ?_)
          refine WL.op rfl (opW.assignI rfl ?_)
          refine WL.op rfl (opW.assignI rfl ?_)
          refine WL.nil ?_
          refine thenQ_n (hK13 _ _ ?_)
          refine WC.ret ?_
          refine bodyQ_ret (.tmpI rfl (.tmpI rfl .nil)) ?_
          have : k = mm := by omega
          subst this
          refine ⟨?_, hS.old⟩
          rw [hR]
          rfl

end Go.Fer
