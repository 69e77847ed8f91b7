/- numbers, data -/
import Derived.Test.YtmibkfdpgmohfaaGreatDoorR
set_option linter.all false
namespace Go.Fer
open Go Go.Proofs Go.RowKit

/-- the number that bytes are, the lowest first -/
def leN : List UInt8 → Nat
 | [] => 0
 | c :: r => c.toNat + 256 * leN r
theorem leN_append (a b : List UInt8) : leN (a ++ b) = leN a + 2 ^ (8 * a.length) * leN b := by
 induction a with
 | nil => simp [leN]
 | cons c r ih =>
  simp only [List.cons_append, leN, ih, List.length_cons]
  rw [show 8 * (r.length + 1) = 8 * r.length + 8 by omega, Nat.pow_add, Nat.mul_add]
  have : 256 * (2 ^ (8 * r.length) * leN b) = 2 ^ (8 * r.length) * 2 ^ 8 * leN b := by rw [← Nat.mul_assoc, Nat.mul_comm 256]
  omega
theorem leN_lt (l : List UInt8) : leN l < 2 ^ (8 * l.length) := by
 induction l with
 | nil => simp [leN]
 | cons c r ih =>
  have := u8_lt c
  simp only [leN, List.length_cons]
  rw [show 8 * (r.length + 1) = 8 * r.length + 8 by omega, Nat.pow_add]
  omega
theorem leN_take {b : List UInt8} {k : Nat} (hk : k < b.length) : leN (b.take (k + 1)) = leN (b.take k) + b[k].toNat * 2 ^ (8 * k) := by
 rw [List.take_succ_eq_append_getElem hk, leN_append, List.length_take, Nat.min_eq_left (by omega)]
 simp [leN, Nat.mul_comm]
theorem leN_drop {b : List UInt8} {k m : Nat} (hm : m ≤ b.length) (hk : k < m) : leN ((b.take m).drop k) = b[k].toNat + 256 * leN ((b.take m).drop (k + 1)) := by
 rw [List.drop_eq_getElem_cons (by simp; omega)]
 simp [leN]
theorem leN_take_lt (b : List UInt8) (k : Nat) : leN (b.take k) < 2 ^ (8 * k) :=
 Nat.lt_of_lt_of_le (leN_lt _) (Nat.pow_le_pow_right (by omega) (by simp; omega))
theorem le_shl {c : UInt8} {k : Nat} (hk : k ≤ 7) : IntKind.u64.wrap ((c.toNat : Int) * 2 ^ (min (Int.toNat (8 * (k : Int))) IntKind.u64.bits)) = ((c.toNat * 2 ^ (8 * k) : Nat) : Int) := by
 have e : (8 * (k : Int)) = ((8 * k : Nat) : Int) := by omega
 rw [e]
 have := u8_lt c
 have hb : c.toNat * 2 ^ (8 * k) ≤ 255 * 2 ^ 56 := Nat.mul_le_mul (by omega) (Nat.pow_le_pow_right (by omega) (by omega))
 refine shl_u64 (by omega) (by simp) (by omega)
theorem le_or {c : UInt8} {k n : Nat} (hk : k ≤ 7) (hn : n < 2 ^ (8 * k)) : bitsI .or .u64 (n : Int) ((c.toNat * 2 ^ (8 * k) : Nat) : Int) = ((n + c.toNat * 2 ^ (8 * k) : Nat) : Int) := by
 have := u8_lt c
 have hb : c.toNat * 2 ^ (8 * k) ≤ 255 * 2 ^ 56 := Nat.mul_le_mul (by omega) (Nat.pow_le_pow_right (by omega) (by omega))
 have hp : 2 ^ (8 * k) ≤ 2 ^ 56 := Nat.pow_le_pow_right (by omega) (by omega)
 rw [bits_or_u64 _ _ (by omega) (by omega), or_add_low _ _ _ hn]
/-- a number off bytes: number, error -/
def getR (b : List UInt8) (m : Int) : Nat × Int := if m < 1 ∨ 8 < m then (0, 1) else if (b.length : Int) < m then (0, 5) else (leN (b.take m.toNat), 0)
theorem getR_ok {b : List UInt8} {m : Nat} (h1 : 1 ≤ m) (h8 : m ≤ 8) (hl : m ≤ b.length) : getR b m = (leN (b.take m), 0) := by
 unfold getR; rw [if_neg (by omega), if_neg (by omega)]; simp

theorem get_le (w0 : World) (v : Value) (b : List UInt8) (many : Int) (hx : SlR w0 v b) : Ret Tryz.prog 98 #[v, .int .i64 many] w0 (fun u w' => u = .tuple #[.int .u64 ((getR b many).1 : Int), .int .i64 (getR b many).2] ∧ Bel w0 w') := by
 refine Ret.enter (args := [v, .int .i64 many]) Tryz.func98 rfl Tryz.ntmps98 Tryz.results98 rfl ?_
 have hS := St.start w0
 refine WC.seq (fun K1 hK1 => ?_)
 refine WC.region ?_
 refine WL.op rfl (opW.assignI rfl ?_)
 refine WL.op rfl (opW.assignI rfl ?_)
 refine WL.nil ?_
 refine thenQ_n (hK1 _ _ ?_)
 refine WC.seq (fun K2 hK2 => ?_)
 refine WC.block ?_
 refine WC.seq (fun K3 hK3 => ?_)
 refine WC.region ?_
 refine WL.op rfl (opW.moveI rfl ?_)
 refine WL.op rfl (opW.lss rfl rfl ?_)
 refine WL.op rfl (opW.moveB rfl ?_)
 refine WL.gd _ 10 _ rfl rfl rfl rfl (fun hg11 => opW.moveI rfl ⟨rfl, Bel.refl _⟩) (fun w hw => ?_)
 replace hS := hS.bel hw
 refine WL.gd _ 10 _ rfl rfl rfl rfl (fun hg12 => opW.gtr (by first | exact gv_of rfl hg12 | rfl) rfl ⟨rfl, Bel.refl _⟩) (fun w hw => ?_)
 replace hS := hS.bel hw
 refine WL.op rfl (opW.pickOr rfl rfl (by first | rfl) ?_)
 refine WL.op rfl (opW.assignB rfl ?_)
 refine WL.nil ?_
 refine thenQ_n (hK3 _ _ ?_)
 refine WC.cond _ rfl (fun hc0 => ?_) (fun hc0 => ?_)
 ·
  have hr0 := hc0
  try simp only [sq1,sq2,sq3,sq4,sq5,sq6,sq7,sq8,sq9,sq0] at hc0
  refine WC.seq (fun K4 hK4 => ?_)
  refine WC.region ?_
  refine WL.op rfl (opW.assignI rfl ?_)
  refine WL.op rfl (opW.assignI rfl ?_)
  refine WL.nil ?_
  refine thenQ_n (hK4 _ _ ?_)
  refine WC.ret ?_
  refine blockQ_r ?_
  refine thenQ_r ?_
  refine bodyQ_ret (.tmpI rfl (.tmpI rfl .nil)) ?_
  refine ⟨?_, hS.old⟩
  rw [show getR b many = (0, 1) from if_pos hc0]
  rfl
 ·
  have hr0 := hc0
  try simp only [sq1,sq2,sq3,sq4,sq5,sq6,sq7,sq8,sq9,sq0] at hc0
  refine WC.seq (fun K5 hK5 => ?_)
  refine WC.region ?_
  refine WL.op rfl (opW.moveV (v := v) rfl ?_)
  refine WL.op rfl (opW.lenV rfl ((hx.bel hS.old)) ?_)
  refine WL.op rfl (opW.moveI rfl ?_)
  refine WL.op rfl (opW.lss rfl rfl ?_)
  refine WL.op rfl (opW.assignB rfl ?_)
  refine WL.nil ?_
  refine thenQ_n (hK5 _ _ ?_)
  refine WC.cond _ rfl (fun hc1 => ?_) (fun hc1 => ?_)
  ·
   have hr1 := hc1
   try simp only [sq1,sq2,sq3,sq4,sq5,sq6,sq7,sq8,sq9,sq0] at hc1
   refine WC.seq (fun K6 hK6 => ?_)
   refine WC.region ?_
   refine WL.op rfl (opW.assignI rfl ?_)
   refine WL.op rfl (opW.assignI rfl ?_)
   refine WL.nil ?_
   refine thenQ_n (hK6 _ _ ?_)
   refine WC.ret ?_
   refine blockQ_r ?_
   refine thenQ_r ?_
   refine bodyQ_ret (.tmpI rfl (.tmpI rfl .nil)) ?_
   refine ⟨?_, hS.old⟩
   rw [show getR b many = (0, 5) from by unfold getR; rw [if_neg (by omega), if_pos hc1]]
   rfl
  ·
   have hr1 := hc1
   try simp only [sq1,sq2,sq3,sq4,sq5,sq6,sq7,sq8,sq9,sq0] at hc1
   obtain ⟨mm, rfl⟩ : ∃ mm : Nat, many = (mm : Int) := ⟨many.toNat, by omega⟩
   have hR := getR_ok (b := b) (m := mm) (by omega) (by omega) (by omega)
   rw [hR]
   refine WC.skip ?_
   refine blockQ_n ?_
   refine thenQ_n (hK2 _ _ ?_)
   refine WC.seq (fun K7 hK7 => ?_)
   refine WC.seq (fun K8 hK8 => ?_)
   refine WC.region ?_
   refine WL.op rfl (opW.moveI rfl ?_)
   refine WL.op rfl (opW.moveI rfl ?_)
   refine WL.nil ?_
   refine thenQ_n (hK8 _ _ ?_)
   refine WC.block ?_
   refine WC.loop (fun m f w => ∃ k : Nat, Fits [(0, v), (4, .int .u64 (leN (b.take k) : Int)), (19, .int .i64 (mm : Int)), (20, .int .i64 (k : Int))] f ∧ St w0 [] w ∧ k ≤ mm ∧ m = mm - k) (mm) ?_ ?_
   ·
    exact ⟨0, ⟨rfl, rfl, rfl, rfl, trivial⟩, hS, Nat.zero_le _, rfl⟩
   ·
    rintro m f w ⟨k, hfit, hS, hk, hm⟩
    refine WC.fits _ hfit (fun g => ?_)
    clear hfit
    refine WC.seq (fun K9 hK9 => ?_)
    refine WC.region ?_
    refine WL.op rfl (opW.lss rfl rfl ?_)
    refine WL.nil ?_
    refine thenQ_n (hK9 _ _ ?_)
    refine WC.seq (fun K10 hK10 => ?_)
    refine WC.cond _ rfl (fun hc2 => ?_) (fun hc2 => ?_)
    ·
     have hr2 := hc2
     try simp only [sq1,sq2,sq3,sq4,sq5,sq6,sq7,sq8,sq9,sq0] at hc2
     have hkl : k < b.length := by omega
     have hlt := u8_lt b[k]
     refine WC.skip ?_
     refine thenQ_n (hK10 _ _ ?_)
     refine WC.seq (fun K11 hK11 => ?_)
     refine WC.block ?_
     refine WC.seq (fun K12 hK12 => ?_)
     refine WC.region ?_
     refine WL.op rfl (opW.moveI rfl ?_)
     refine WL.op rfl (opW.assignI rfl ?_)
     refine WL.nil ?_
     refine thenQ_n (hK12 _ _ ?_)
     refine WC.region ?_
     refine WL.op rfl (opW.moveI rfl ?_)
     refine WL.op rfl (opW.moveV (v := v) rfl ?_)
     refine WL.op rfl (opW.moveI rfl ?_)
     refine WL.op rfl (opW.idxV rfl ((hx.bel hS.old)) rfl (by omega) ?_)
     refine WL.op rfl (opW.loadV rfl (((hx.bel hS.old).isPt hkl).ld rfl) ?_)
     refine WL.op rfl (opW.conv rfl (wrap_u64 (by omega)) ?_)
     refine WL.op rfl (opW.moveI rfl ?_)
     refine WL.op rfl (opW.mul rfl rfl (wrap_i64 (by omega)) ?_)
     refine WL.op rfl (opW.shl rfl rfl (by omega) (le_shl (by omega)) ?_)
     refine WL.op rfl (opW.or rfl rfl (le_or (by omega) (leN_take_lt _ _)) ?_)
     refine WL.op rfl (opW.assignI rfl ?_)
     refine WL.nil ?_
     refine blockQ_n ?_
     refine thenQ_n (hK11 _ _ ?_)
     refine WC.region ?_
     refine WL.op rfl (opW.add rfl rfl (wrap_i64 (by omega)) ?_)
     refine WL.op rfl (opW.moveI rfl ?_)
     refine WL.nil ?_
     refine thenQ_n ?_
     refine ⟨mm - (k + 1), by omega, k + 1, ⟨rfl, congrArg (fun n : Nat => Value.int .u64 (n : Int)) (leN_take hkl).symm, rfl, congrArg (Value.int .i64) (by omega), trivial⟩, hS, by omega, rfl⟩
    ·
     have hr2 := hc2
     try simp only [sq1,sq2,sq3,sq4,sq5,sq6,sq7,sq8,sq9,sq0] at hc2
     refine WC.exit ?_
     refine thenQ_e ?_
     refine thenQ_e ?_
     refine blockQ_hit ?_
     refine thenQ_n (hK7 _ _ ?_)
     refine WC.seq (fun K13 hK13 => ?_)
     refine WC.region ?_
     refine WL.op rfl (opW.moveI rfl ?_)
     refine WL.op rfl (opW.assignI rfl ?_)
     refine WL.op rfl (opW.assignI rfl ?_)
     refine WL.nil ?_
     refine thenQ_n (hK13 _ _ ?_)
     refine WC.ret ?_
     refine bodyQ_ret (.tmpI rfl (.tmpI rfl .nil)) ?_
     have : k = mm := by omega
     subst this
     refine ⟨?_, hS.old⟩
     rw [hR]
     rfl

theorem ref_get (w0 : World) (v : Value) (b : List UInt8) (many : Int) (hx : SlR w0 v b) : Ret Tryz.prog 80 #[v, .int .i64 many] w0 (fun u w' => u = .tuple #[.int .u64 ((getR b many).1 : Int), .int .i64 (getR b many).2] ∧ Bel w0 w') := by
 refine Ret.enter (args := [v, .int .i64 many]) Tryz.func80 rfl Tryz.ntmps80 Tryz.results80 rfl ?_
 have hS := St.start w0
 refine WC.seq (fun K1 hK1 => ?_)
 refine WC.region ?_
 refine WL.op rfl (opW.assignI rfl ?_)
 refine WL.op rfl (opW.assignI rfl ?_)
 refine WL.nil ?_
 refine thenQ_n (hK1 _ _ ?_)
 refine WC.seq (fun K2 hK2 => ?_)
 refine WC.seq (fun K3 hK3 => ?_)
 refine WC.region ?_
 refine WL.op rfl (opW.moveI rfl ?_)
 refine WL.op rfl (opW.lss rfl rfl ?_)
 refine WL.op rfl (opW.moveB rfl ?_)
 refine WL.gd _ 10 _ rfl rfl rfl rfl (fun hg11 => opW.moveI rfl ⟨rfl, Bel.refl _⟩) (fun w hw => ?_)
 replace hS := hS.bel hw
 refine WL.gd _ 10 _ rfl rfl rfl rfl (fun hg12 => opW.gtr (by first | exact gv_of rfl hg12 | rfl) rfl ⟨rfl, Bel.refl _⟩) (fun w hw => ?_)
 replace hS := hS.bel hw
 refine WL.op rfl (opW.pickOr rfl rfl (by first | rfl) ?_)
 refine WL.nil ?_
 refine thenQ_n (hK3 _ _ ?_)
 refine WC.cond _ rfl (fun hc0 => ?_) (fun hc0 => ?_)
 ·
  have hr0 := hc0
  try simp only [sq1,sq2,sq3,sq4,sq5,sq6,sq7,sq8,sq9,sq0] at hc0
  refine WC.seq (fun K4 hK4 => ?_)
  refine WC.region ?_
  refine WL.op rfl (opW.assignI rfl ?_)
  refine WL.op rfl (opW.assignI rfl ?_)
  refine WL.nil ?_
  refine thenQ_n (hK4 _ _ ?_)
  refine WC.ret ?_
  refine thenQ_r ?_
  refine bodyQ_ret (.tmpI rfl (.tmpI rfl .nil)) ?_
  refine ⟨?_, hS.old⟩
  rw [show getR b many = (0, 1) from if_pos hc0]
  rfl
 ·
  have hr0 := hc0
  try simp only [sq1,sq2,sq3,sq4,sq5,sq6,sq7,sq8,sq9,sq0] at hc0
  refine WC.skip ?_
  refine thenQ_n (hK2 _ _ ?_)
  refine WC.seq (fun K5 hK5 => ?_)
  refine WC.seq (fun K6 hK6 => ?_)
  refine WC.region ?_
  refine WL.op rfl (opW.moveV (v := v) rfl ?_)
  refine WL.op rfl (opW.lenV rfl ((hx.bel hS.old)) ?_)
  refine WL.op rfl (opW.moveI rfl ?_)
  refine WL.op rfl (opW.lss rfl rfl ?_)
  refine WL.nil ?_
  refine thenQ_n (hK6 _ _ ?_)
  refine WC.cond _ rfl (fun hc1 => ?_) (fun hc1 => ?_)
  ·
   have hr1 := hc1
   try simp only [sq1,sq2,sq3,sq4,sq5,sq6,sq7,sq8,sq9,sq0] at hc1
   refine WC.seq (fun K7 hK7 => ?_)
   refine WC.region ?_
   refine WL.op rfl (opW.assignI rfl ?_)
   refine WL.op rfl (opW.assignI rfl ?_)
   refine WL.nil ?_
   refine thenQ_n (hK7 _ _ ?_)
   refine WC.ret ?_
   refine thenQ_r ?_
   refine bodyQ_ret (.tmpI rfl (.tmpI rfl .nil)) ?_
   refine ⟨?_, hS.old⟩
   rw [show getR b many = (0, 5) from by unfold getR; rw [if_neg (by omega), if_pos hc1]]
   rfl
  ·
   have hr1 := hc1
   try simp only [sq1,sq2,sq3,sq4,sq5,sq6,sq7,sq8,sq9,sq0] at hc1
   obtain ⟨mm, rfl⟩ : ∃ mm : Nat, many = (mm : Int) := ⟨many.toNat, by omega⟩
   have hR := getR_ok (b := b) (m := mm) (by omega) (by omega) (by omega)
   rw [hR]
   refine WC.skip ?_
   refine thenQ_n (hK5 _ _ ?_)
   refine WC.seq (fun K8 hK8 => ?_)
   refine WC.region ?_
   refine WL.op rfl (opW.assignI rfl ?_)
   refine WL.nil ?_
   refine thenQ_n (hK8 _ _ ?_)
   refine WC.seq (fun K9 hK9 => ?_)
   refine WC.seq (fun K10 hK10 => ?_)
   refine WC.region ?_
   refine WL.op rfl (opW.moveI rfl ?_)
   refine WL.op rfl (opW.sub rfl rfl (wrap_i64 (by omega)) ?_)
   refine WL.op rfl (opW.assignI rfl ?_)
   refine WL.nil ?_
   refine thenQ_n (hK10 _ _ ?_)
   refine WC.block ?_
   refine WC.loop (fun m f w => ∃ k : Nat, Fits [(0, v), (6, .int .u64 (leN ((b.take mm).drop k) : Int)), (7, .int .i64 ((k : Int) - 1))] f ∧ St w0 [] w ∧ k ≤ mm ∧ m = k) (mm) ?_ ?_
   ·
    exact ⟨mm, ⟨rfl, congrArg (fun n : Nat => Value.int .u64 (n : Int)) (by rw [List.drop_of_length_le (by simp; omega)]; rfl), rfl, trivial⟩, hS, Nat.le_refl _, rfl⟩
   ·
    rintro m f w ⟨k, hfit, hS, hk, hm⟩
    refine WC.fits _ hfit (fun g => ?_)
    clear hfit
    refine WC.seq (fun K11 hK11 => ?_)
    refine WC.seq (fun K12 hK12 => ?_)
    refine WC.region ?_
    refine WL.op rfl (opW.moveI rfl ?_)
    refine WL.op rfl (opW.geq rfl rfl ?_)
    refine WL.nil ?_
    refine thenQ_n (hK12 _ _ ?_)
    refine WC.cond _ rfl (fun hc2 => ?_) (fun hc2 => ?_)
    ·
     have hr2 := hc2
     try simp only [sq1,sq2,sq3,sq4,sq5,sq6,sq7,sq8,sq9,sq0] at hc2
     obtain ⟨j, rfl⟩ : ∃ j, k = j + 1 := ⟨k - 1, by omega⟩
     have hkl : j < b.length := by omega
     have hlt := u8_lt b[j]
     have hd := leN_drop (b := b) (k := j) (m := mm) (by omega) (by omega)
     have hlt2 : leN ((b.take mm).drop j) < 2 ^ 64 := Nat.lt_of_lt_of_le (leN_lt _) (Nat.pow_le_pow_right (by omega) (by simp; omega))
     have hj : (((j + 1 : Nat) : Int) - 1) = (j : Int) := by omega
     rw [hj]
     refine WC.skip ?_
     refine thenQ_n (hK11 _ _ ?_)
     refine WC.seq (fun K13 hK13 => ?_)
     refine WC.block ?_
     refine WC.region ?_
     refine WL.op rfl (opW.moveI rfl ?_)
     refine WL.op rfl (opW.mul rfl rfl (wrap_u64 (by omega)) ?_)
     refine WL.op rfl (opW.moveV (v := v) rfl ?_)
     refine WL.op rfl (opW.moveI rfl ?_)
     refine WL.op rfl (opW.idxV rfl ((hx.bel hS.old)) rfl (by omega) ?_)
     refine WL.op rfl (opW.loadV rfl (((hx.bel hS.old).isPt hkl).ld rfl) ?_)
     refine WL.op rfl (opW.conv rfl (wrap_u64 (by omega)) ?_)
     refine WL.op rfl (opW.add rfl rfl (wrap_u64 (by omega)) ?_)
     refine WL.op rfl (opW.assignI rfl ?_)
     refine WL.nil ?_
     refine blockQ_n ?_
     refine thenQ_n (hK13 _ _ ?_)
     refine WC.region ?_
     refine WL.op rfl (opW.moveI rfl ?_)
     refine WL.op rfl (opW.sub rfl rfl (wrap_i64 (by omega)) ?_)
     refine WL.op rfl (opW.assignI rfl ?_)
     refine WL.nil ?_
     refine thenQ_n ?_
     refine ⟨j, by omega, j, ⟨rfl, congrArg (Value.int .u64) (by omega), congrArg (Value.int .i64) (by omega), trivial⟩, hS, by omega, rfl⟩
    ·
     have hr2 := hc2
     try simp only [sq1,sq2,sq3,sq4,sq5,sq6,sq7,sq8,sq9,sq0] at hc2
     refine WC.exit ?_
     refine thenQ_e ?_
     refine thenQ_e ?_
     refine blockQ_hit ?_
     refine thenQ_n (hK9 _ _ ?_)
     refine WC.seq (fun K14 hK14 => ?_)
     refine WC.region ?_
     refine WL.op rfl (opW.moveI rfl ?_)
     refine WL.op rfl (opW.assignI rfl ?_)
     refine WL.op rfl (opW.assignI rfl ?_)
     refine WL.nil ?_
     refine thenQ_n (hK14 _ _ ?_)
     refine WC.ret ?_
     refine bodyQ_ret (.tmpI rfl (.tmpI rfl .nil)) ?_
     have : k = 0 := by omega
     subst this
     refine ⟨?_, hS.old⟩
     rw [hR]
     rfl

def need (t : Nat) : Nat := if t = 0 ∨ t = 2 then 2 else 1
def longK : List (U64 × Int) := [(⟨0⟩, 48), (⟨1⟩, 32), (⟨2⟩, 8), (⟨8⟩, 8)]
/-- what an instruction's data ask for -/
def askF (b : List UInt8) : Option Ask :=
 if b.length < 4 then none else
 let t := leN (b.take 4)
 let r := b.drop 4
 if t = 0 ∧ r.length = 48 then some ⟨0, leN (r.take 8), leN ((r.drop 8).take 8), vecOf 32 (r.drop 16)⟩
 else if t = 1 ∧ r.length = 32 then some ⟨1, 0, 0, vecOf 32 r⟩
 else if t = 2 ∧ r.length = 8 then some ⟨2, leN (r.take 8), 0, vz 32⟩
 else if t = 8 ∧ r.length = 8 then some ⟨8, 0, leN (r.take 8), vz 32⟩
 else none
theorem askF_ne {b : List UInt8} (h4 : ¬ b.length < 4) (h : ¬ ((leN (b.take 4) = 0 ∧ (b.drop 4).length = 48) ∨ (leN (b.take 4) = 1 ∧ (b.drop 4).length = 32) ∨ (leN (b.take 4) = 2 ∧ (b.drop 4).length = 8) ∨ (leN (b.take 4) = 8 ∧ (b.drop 4).length = 8))) : askF b = none := by
 unfold askF
 rw [if_neg h4]
 simp only
 rw [if_neg (fun e => h (.inl e)), if_neg (fun e => h (.inr (.inl e))), if_neg (fun e => h (.inr (.inr (.inl e)))), if_neg (fun e => h (.inr (.inr (.inr e))))]
theorem askF0 {b : List UInt8} (h4 : ¬ b.length < 4) (ht : leN (b.take 4) = 0) (hl : (b.drop 4).length = 48) : askF b = some ⟨0, leN ((b.drop 4).take 8), leN (((b.drop 4).drop 8).take 8), vecOf 32 ((b.drop 4).drop 16)⟩ := by
 unfold askF; rw [if_neg h4]; simp only; rw [if_pos ⟨ht, hl⟩]
theorem askF1 {b : List UInt8} (h4 : ¬ b.length < 4) (ht : leN (b.take 4) = 1) (hl : (b.drop 4).length = 32) : askF b = some ⟨1, 0, 0, vecOf 32 (b.drop 4)⟩ := by
 unfold askF; rw [if_neg h4]; simp only; rw [if_neg (by omega), if_pos ⟨ht, hl⟩]
theorem askF2 {b : List UInt8} (h4 : ¬ b.length < 4) (ht : leN (b.take 4) = 2) (hl : (b.drop 4).length = 8) : askF b = some ⟨2, leN ((b.drop 4).take 8), 0, vz 32⟩ := by
 unfold askF; rw [if_neg h4]; simp only; rw [if_neg (by omega), if_neg (by omega), if_pos ⟨ht, hl⟩]
theorem askF8 {b : List UInt8} (h4 : ¬ b.length < 4) (ht : leN (b.take 4) = 8) (hl : (b.drop 4).length = 8) : askF b = some ⟨8, 0, leN ((b.drop 4).take 8), vz 32⟩ := by
 unfold askF; rw [if_neg h4]; simp only; rw [if_neg (by omega), if_neg (by omega), if_neg (by omega), if_pos ⟨ht, hl⟩]
theorem long_none {t : Nat} (h : (aget (⟨t⟩ : U64) longK).isSome = false) : t ≠ 0 ∧ t ≠ 1 ∧ t ≠ 2 ∧ t ≠ 8 := by
 simp only [longK, aget, U64.mk.injEq] at h
 refine ⟨?_, ?_, ?_, ?_⟩ <;> (rintro rfl; simp at h)
theorem long_some {t : Nat} (h : (aget (⟨t⟩ : U64) longK).isSome = true) : (t = 0 ∧ (aget (⟨t⟩ : U64) longK).getD 0 = 48) ∨ (t = 1 ∧ (aget (⟨t⟩ : U64) longK).getD 0 = 32) ∨ (t = 2 ∧ (aget (⟨t⟩ : U64) longK).getD 0 = 8) ∨ (t = 8 ∧ (aget (⟨t⟩ : U64) longK).getD 0 = 8) := by
 by_cases h0 : t = 0
 ·subst h0; exact .inl ⟨rfl, rfl⟩
 by_cases h1 : t = 1
 ·subst h1; exact .inr (.inl ⟨rfl, rfl⟩)
 by_cases h2 : t = 2
 ·subst h2; exact .inr (.inr (.inl ⟨rfl, rfl⟩))
 by_cases h8 : t = 8
 ·subst h8; exact .inr (.inr (.inr ⟨rfl, rfl⟩))
 exfalso
 simp only [longK, aget, U64.mk.injEq] at h
 simp [h0, h1, h2, h8, Ne.symm h0, Ne.symm h1, Ne.symm h2, Ne.symm h8, eq_comm] at h
theorem vi64_one (n : Int) : (Value.int .i64 n).cells = #[.int .i64 n] := rfl

theorem cutnum_ok (wb w0 : World) (S : List Ent) (p : Nat) (s : SlV) (bs : List UInt8) (m : Nat) (hS0 : St wb (blkE p (Enc.enc (Cut.mk s)) 187 :: S) w0) (hb : SlR wb s.v bs) (h1 : 1 ≤ m) (h8 : m ≤ 8) (hm : m ≤ bs.length) : Ret Tryz.prog 91 #[.pointer (some ⟨p, 0, none⟩), .int .i64 (m : Int)] w0 (fun u w' => ∃ s' : SlV, u = .int .u64 ((leN (bs.take m) : Nat) : Int) ∧ SlR wb s'.v (bs.drop m) ∧ St wb (blkE p (Enc.enc (Cut.mk s')) 187 :: S) w') := by
 refine Ret.enter (args := [.pointer (some ⟨p, 0, none⟩), .int .i64 (m : Int)]) Tryz.func91 rfl Tryz.ntmps91 Tryz.results91 rfl ?_
 have hS := St.start w0
 replace hS := hS0
 refine WC.seq (fun K1 hK1 => ?_)
 refine WC.region ?_
 refine WL.op rfl (opW.assignI rfl ?_)
 refine WL.nil ?_
 refine thenQ_n (hK1 _ _ ?_)
 refine WC.seq (fun K2 hK2 => ?_)
 refine WC.region ?_
 refine WL.op rfl (opW.moveV (v := .pointer (some ⟨p, 0, none⟩)) rfl ?_)
 refine WL.op rfl (opW.nilCheckB rfl ?_)
 refine WL.op rfl (opW.fieldAddrB rfl ?_)
 refine WL.op rfl (opW.loadV rfl (hS.ld1 (by repeat constructor) (Cut.at_b _)) ?_)
 refine WL.op rfl (opW.moveI rfl ?_)
 refine WL.op rfl (opW.call (get_le _ s.v bs (m : Int) (hb.bel hS.old)) rfl ?_)
 rintro _ w ⟨rfl, hw⟩; replace hS := hS.bel hw
 rw [getR_ok h1 h8 hm]
 refine WL.op rfl (opW.moveV (v := .tuple #[.int .u64 ((leN (bs.take m) : Nat) : Int), .int .i64 0]) rfl ?_)
 refine WL.op rfl (opW.extract rfl rfl ?_)
 refine WL.op rfl (opW.extract rfl rfl ?_)
 refine WL.op rfl (opW.assignI rfl ?_)
 refine WL.op rfl (opW.assignI rfl ?_)
 refine WL.nil ?_
 refine thenQ_n (hK2 _ _ ?_)
 refine WC.seq (fun K3 hK3 => ?_)
 refine WC.region ?_
 obtain ⟨s2, hs2⟩ : ∃ s2 : SlV, (cutV s.v m bs.length (capV s.v) (Enc.sz UInt8)) = s2.v := by
  have h := hb.cut (l := m) (h := bs.length) (m := capV s.v) hm (Nat.le_refl _) hb.cap (Nat.le_refl _)
  exact h.asV
 have hc2 : SlR wb s2.v (bs.drop m) := by
  have h := hb.cut (l := m) (h := bs.length) (m := capV s.v) hm (Nat.le_refl _) hb.cap (Nat.le_refl _)
  rw [hs2, List.take_length] at h; exact h
 refine WL.op rfl (opW.moveV (v := .pointer (some ⟨p, 0, none⟩)) rfl ?_)
 refine WL.op rfl (opW.moveV (v := .pointer (some ⟨p, 0, none⟩)) rfl ?_)
 refine WL.op rfl (opW.nilCheckB rfl ?_)
 refine WL.op rfl (opW.fieldAddrB rfl ?_)
 refine WL.op rfl (opW.loadV rfl (hS.ld1 (by repeat constructor) (Cut.at_b _)) ?_)
 refine WL.op rfl (opW.moveI rfl ?_)
 refine WL.op rfl (opW.cutS (l := m) (h' := bs.length) (m := capV s.v) (hb.bel hS.old) ⟨rfl, Nat.le_refl _⟩ ⟨⟨rfl, rfl⟩, hb.cap⟩ ⟨⟨_, rfl⟩, hm⟩ ?_)
 refine WL.op rfl (opW.nilCheckB rfl ?_)
 refine WL.op rfl (opW.fieldAddrB rfl ?_)
 refine WL.op0 (opW.storeF (v := s2.v) (sz := 1) (cs' := Enc.enc (Cut.mk s2)) hS rfl hs2 (by repeat constructor) rfl (by rw [Enc.size_eq]; decide) (Enc.one (α := SlV) s2) (Cut.set_b (Cut.mk s) s2) ?_)
 intro w hS; replace hS := hS _ (by repeat constructor)
 refine WL.nil ?_
 refine thenQ_n (hK3 _ _ ?_)
 refine WC.seq (fun K4 hK4 => ?_)
 refine WC.region ?_
 refine WL.op rfl (opW.moveI rfl ?_)
 refine WL.op rfl (opW.assignI rfl ?_)
 refine WL.nil ?_
 refine thenQ_n (hK4 _ _ ?_)
 refine WC.ret ?_
 refine bodyQ_ret (.tmpI rfl .nil) ?_
 exact ⟨s2, rfl, hc2, hS⟩

theorem ask_zero : (joinA [#[.int .u64 0], #[.int .u64 0], #[.int .u64 0], (Array.replicate 32 (.int .u8 0))]) = Enc.enc (⟨0, 0, 0, vz 32⟩ : Ask) := by
 simp only [Ask.enc_eq, Ask.parts, enc_vz]; rfl

theorem longK_eq : aput (⟨8⟩ : U64) (8 : Int) (aput ⟨2⟩ 8 (aput ⟨1⟩ 32 (aput ⟨0⟩ 48 []))) = longK := by decide
theorem getR4 {b : List UInt8} (h : ¬ b.length < 4) : (b.drop 4).length = b.length - 4 := by simp
theorem leN_lt64 (b : List UInt8) {m : Nat} (hm : m ≤ 8) : leN (b.take m) < 18446744073709551616 := by
 have := leN_take_lt b m
 have h2 : 2 ^ (8 * m) ≤ 2 ^ 64 := Nat.pow_le_pow_right (by omega) (by omega)
 omega

set_option maxHeartbeats 2000000 in
theorem data_ok (w0 : World) (v : Value) (bs : List UInt8) (hx0 : SlR w0 v bs) : Ret Tryz.prog 85 #[v] w0 (fun u w' => ∃ (x : Ask) (b : Bool), u = .tuple #[.agg (Enc.enc x), .bool b] ∧ b = (askF bs).isSome ∧ (b = true → askF bs = some x) ∧ Bel w0 w') := by
 refine Ret.enter (args := [v]) Tryz.func85 rfl Tryz.ntmps85 Tryz.results85 rfl ?_
 have hS := St.start w0
 obtain ⟨s0, rfl⟩ := hx0.asV
 have hx := hx0
 refine WC.seq (fun K1 hK1 => ?_)
 refine WC.region ?_
 refine WL.op rfl (opW.allocA hS ?_)
 intro b2 w _ hS
 refine WL.op rfl (opW.assignB rfl ?_)
 rw [ask_zero] at hS
 refine WL.nil ?_
 refine thenQ_n (hK1 _ _ ?_)
 refine WC.seq (fun K2 hK2 => ?_)
 refine WC.seq (fun K3 hK3 => ?_)
 refine WC.region ?_
 refine WL.op rfl (opW.moveV (v := s0.v) rfl ?_)
 refine WL.op rfl (opW.lenV rfl ((hx.bel hS.old)) ?_)
 refine WL.op rfl (opW.lss rfl rfl ?_)
 refine WL.nil ?_
 refine thenQ_n (hK3 _ _ ?_)
 refine WC.cond _ rfl (fun hc0 => ?_) (fun hc0 => ?_)
 ·
  have hr0 := hc0
  try simp only [sq1,sq2,sq3,sq4,sq5,sq6,sq7,sq8,sq9,sq0] at hc0
  refine WC.seq (fun K4 hK4 => ?_)
  refine WC.region ?_
  refine WL.op rfl (opW.loadV rfl (hS.ldA (cs := Enc.enc (⟨0, 0, 0, vz 32⟩ : Ask)) (by repeat constructor) (Enc.size_eq _)) ?_)
  refine WL.op0 (opW.storeE hS rfl rfl (by repeat constructor) (by first | rfl | exact Enc.size_eq _) ?_)
  intro w hS; replace hS := hS _ (by repeat constructor)
  refine WL.op rfl (opW.assignB rfl ?_)
  refine WL.nil ?_
  refine thenQ_n (hK4 _ _ ?_)
  refine WC.ret ?_
  refine thenQ_r ?_
  refine bodyQ_ret (.cell (by first | exact hS.ldA (by repeat constructor) (by first | rfl | exact Enc.size_eq _) | exact hS.ld1 (by repeat constructor) rfl) (.tmpB rfl .nil)) ?_
  exact ⟨_, false, rfl, by unfold askF; rw [if_pos (by omega)]; rfl, fun h => (by cases h), hS.old⟩
 ·
  have hr0 := hc0
  try simp only [sq1,sq2,sq3,sq4,sq5,sq6,sq7,sq8,sq9,sq0] at hc0
  have h4 : ¬ bs.length < 4 := by omega
  have hr4 := getR4 h4
  refine WC.skip ?_
  refine thenQ_n (hK2 _ _ ?_)
  refine WC.seq (fun K5 hK5 => ?_)
  refine WC.region ?_
  refine WL.op rfl (opW.moveV (v := s0.v) rfl ?_)
  refine WL.op rfl (opW.buildE (r := ((Cut.mk s0) : Cut)) (ps := Cut.parts ((Cut.mk s0) : Cut)) (Cut.enc_eq _) (by first | rfl | (simp only [enc_vset, enc_vz, Account.enc_eq, Account.parts, Role.enc_eq, Role.parts, Instr.enc_eq, Instr.parts, Ask.enc_eq, Ask.parts, Cut.enc_eq, Cut.parts, PairS.enc_eq, PairS.parts, RAsk.enc_eq, RAsk.parts, Header.enc_eq, Header.parts, Lookup.enc_eq, Lookup.parts, Message.enc_eq, Message.parts, Tx.enc_eq, Tx.parts, Budget.enc_eq, Budget.parts, Ready.enc_eq, Ready.parts, Holding.enc_eq, Holding.parts, Outcome.enc_eq, Outcome.parts, Running.enc_eq, Running.parts]; rfl)) (by (repeat' (first | exact trivial | refine And.intro ?_ ?_)) <;> first | rfl | exact Enc.size_eq _ | (simp; done)) ?_)
  refine WL.op rfl (opW.boxA hS rfl ?_)
  intro b12 w _ hS
  refine WL.op rfl (opW.assignV (v := .pointer (some ⟨b12, 0, none⟩)) rfl ?_)
  refine WL.nil ?_
  refine thenQ_n (hK5 _ _ ?_)
  refine WC.seq (fun K6 hK6 => ?_)
  refine WC.region ?_
  refine WL.op rfl (opW.moveV (v := .pointer (some ⟨b12, 0, none⟩)) rfl ?_)
  refine WL.op rfl (opW.call (cutnum_ok _ _ _ b12 s0 bs 4 (hS.pick (e := blkE b12 (Enc.enc (Cut.mk s0)) 187) (by repeat constructor)) hx (by omega) (by omega) (by omega)) rfl ?_)
  rintro _ w ⟨s14, rfl, hs14, hS⟩
  refine WL.op rfl (opW.fieldAddrB rfl ?_)
  refine WL.op0 (opW.storeF (v := .int .u64 (((leN (bs.take 4)) : Nat) : Int)) (sz := 1) (cs' := Enc.enc (⟨(leN (bs.take 4)), 0, 0, vz 32⟩ : Ask)) hS rfl rfl (by repeat constructor) rfl (by rw [Enc.size_eq]; decide) (one_int _ _) (Ask.set_tag (⟨0, 0, 0, vz 32⟩ : Ask) ((leN (bs.take 4)))) ?_)
  intro w hS; replace hS := hS _ (by repeat constructor)
  refine WL.nil ?_
  refine thenQ_n (hK6 _ _ ?_)
  refine WC.seq (fun K7 hK7 => ?_)
  refine WC.region ?_
  obtain ⟨X, hX⟩ : ∃ X, (aget (⟨(leN (bs.take 4))⟩ : U64) longK).getD 0 = X := ⟨_, rfl⟩
  obtain ⟨bb, hbb⟩ : ∃ bb, (aget (⟨(leN (bs.take 4))⟩ : U64) longK).isSome = bb := ⟨_, rfl⟩
  refine WL.op rfl (opW.makeMap U64 (Value.int .i64 : Int → Value) hS ?_)
  intro r17 w _ hS
  refine WL.op0 (opW.insert (κ := U64) (ν := Int) (k := ⟨0⟩) (v := 48) (vv := Value.int .i64) (kvs := []) hS (by repeat constructor) rfl rfl rfl ?_)
  intro w hS; replace hS := hS _ (by repeat constructor)
  refine WL.op0 (opW.insert (κ := U64) (ν := Int) (k := ⟨1⟩) (v := 32) (vv := Value.int .i64) (kvs := aput ⟨0⟩ 48 []) hS (by repeat constructor) rfl rfl rfl ?_)
  intro w hS; replace hS := hS _ (by repeat constructor)
  refine WL.op0 (opW.insert (κ := U64) (ν := Int) (k := ⟨2⟩) (v := 8) (vv := Value.int .i64) (kvs := aput ⟨1⟩ 32 (aput ⟨0⟩ 48 [])) hS (by repeat constructor) rfl rfl rfl ?_)
  intro w hS; replace hS := hS _ (by repeat constructor)
  refine WL.op0 (opW.insert (κ := U64) (ν := Int) (k := ⟨8⟩) (v := 8) (vv := Value.int .i64) (kvs := aput ⟨2⟩ 8 (aput ⟨1⟩ 32 (aput ⟨0⟩ 48 []))) hS (by repeat constructor) rfl rfl rfl ?_)
  intro w hS; replace hS := hS _ (by repeat constructor)
  rw [longK_eq] at hS
  refine WL.op rfl (opW.moveV (v := .map (some r17)) rfl ?_)
  refine WL.op rfl (opW.fieldAddrB rfl ?_)
  refine WL.op rfl (opW.loadV rfl (hS.ld1 (by repeat constructor) (Ask.at_tag _)) ?_)
  refine WL.op rfl (opW.lookup2Z (κ := U64) (ν := Int) (k := ⟨(leN (bs.take 4))⟩) (vv := Value.int .i64) (kvs := longK) (z0 := 0) (u := X) inferInstance (hS.map (by repeat constructor)) rfl rfl hX ?_)
  rw [hbb]
  refine WL.op rfl (opW.moveV (v := .tuple #[.int .i64 X, .bool bb]) rfl ?_)
  refine WL.op rfl (opW.extract rfl rfl ?_)
  refine WL.op rfl (opW.extract rfl rfl ?_)
  refine WL.op rfl (opW.assignI rfl ?_)
  refine WL.op rfl (opW.assignB rfl ?_)
  refine WL.nil ?_
  refine thenQ_n (hK7 _ _ ?_)
  refine WC.seq (fun K8 hK8 => ?_)
  refine WC.seq (fun K9 hK9 => ?_)
  refine WC.region ?_
  refine WL.op rfl (opW.moveB rfl ?_)
  refine WL.op rfl (opW.not rfl ?_)
  refine WL.op rfl (opW.moveB rfl ?_)
  cases hcs26 : (!bb) with
  | true =>
   refine WL.gF 26 rfl rfl rfl rfl ?_
   refine WL.gF 26 rfl rfl rfl rfl ?_
   refine WL.gF 26 rfl rfl rfl rfl ?_
   refine WL.gF 26 rfl rfl rfl rfl ?_
   refine WL.gF 26 rfl rfl rfl rfl ?_
   refine WL.gF 26 rfl rfl rfl rfl ?_
   refine WL.gF 26 rfl rfl rfl rfl ?_
   refine WL.op rfl (opW.pickT rfl rfl ?_)
   refine WL.nil ?_
   refine thenQ_n (hK9 _ _ ?_)
   refine WC.cond _ rfl (fun hc1 => ?_) (fun hc1 => ?_)
   ·
    have hr1 := hc1
    try simp only [sq1,sq2,sq3,sq4,sq5,sq6,sq7,sq8,sq9,sq0] at hc1
    refine WC.seq (fun K10 hK10 => ?_)
    refine WC.region ?_
    refine WL.op rfl (opW.loadV rfl (by first | exact hS.ldA (by repeat constructor) (by first | rfl | exact Enc.size_eq _) | exact hS.ld1 (by repeat constructor) rfl) ?_)
    refine WL.op0 (opW.storeE hS rfl rfl (by repeat constructor) (by first | rfl | exact Enc.size_eq _) ?_)
    intro w hS; replace hS := hS _ (by repeat constructor)
    refine WL.op rfl (opW.assignB rfl ?_)
    refine WL.nil ?_
    refine thenQ_n (hK10 _ _ ?_)
    refine WC.ret ?_
    refine thenQ_r ?_
    refine bodyQ_ret (.cell (by first | exact hS.ldA (by repeat constructor) (by first | rfl | exact Enc.size_eq _) | exact hS.ld1 (by repeat constructor) rfl) (.tmpB rfl .nil)) ?_
    have hn := long_none (hbb.trans (by simpa using hcs26))
    exact ⟨_, false, rfl, by rw [askF_ne h4 (by omega)]; rfl, fun h => (by cases h), hS.old⟩
   ·
    have hr1 := hc1
    try simp only [sq1,sq2,sq3,sq4,sq5,sq6,sq7,sq8,sq9,sq0] at hc1
    exact absurd hr1 (by decide)
  | false =>
   refine WL.gT 26 rfl rfl rfl (WL.op rfl (opW.moveV (v := .pointer (some ⟨b12, 0, none⟩)) rfl ?_))
   refine WL.gT 26 rfl rfl rfl (WL.op rfl (opW.nilCheckB rfl ?_))
   refine WL.gT 26 rfl rfl rfl (WL.op rfl (opW.fieldAddrB rfl ?_))
   refine WL.gT 26 rfl rfl rfl (WL.op rfl (opW.loadV rfl (hS.ld1 (by repeat constructor) (Cut.at_b _)) ?_))
   refine WL.gT 26 rfl rfl rfl (WL.op rfl (opW.lenV rfl ((hs14.bel hS.old)) ?_))
   refine WL.gT 26 rfl rfl rfl (WL.op rfl (opW.moveI rfl ?_))
   refine WL.gT 26 rfl rfl rfl (WL.op rfl (opW.neq rfl rfl ?_))
   refine WL.op rfl (opW.pickT rfl rfl ?_)
   refine WL.nil ?_
   refine thenQ_n (hK9 _ _ ?_)
   refine WC.cond _ rfl (fun hc1 => ?_) (fun hc1 => ?_)
   ·
    have hr1 := hc1
    try simp only [sq1,sq2,sq3,sq4,sq5,sq6,sq7,sq8,sq9,sq0] at hc1
    refine WC.seq (fun K11 hK11 => ?_)
    refine WC.region ?_
    refine WL.op rfl (opW.loadV rfl (by first | exact hS.ldA (by repeat constructor) (by first | rfl | exact Enc.size_eq _) | exact hS.ld1 (by repeat constructor) rfl) ?_)
    refine WL.op0 (opW.storeE hS rfl rfl (by repeat constructor) (by first | rfl | exact Enc.size_eq _) ?_)
    intro w hS; replace hS := hS _ (by repeat constructor)
    refine WL.op rfl (opW.assignB rfl ?_)
    refine WL.nil ?_
    refine thenQ_n (hK11 _ _ ?_)
    refine WC.ret ?_
    refine thenQ_r ?_
    refine bodyQ_ret (.cell (by first | exact hS.ldA (by repeat constructor) (by first | rfl | exact Enc.size_eq _) | exact hS.ld1 (by repeat constructor) rfl) (.tmpB rfl .nil)) ?_
    have hL := long_some (hbb.trans (by simpa using hcs26))
    exact ⟨_, false, rfl, by rw [askF_ne h4 (by omega)]; rfl, fun h => (by cases h), hS.old⟩
   ·
    have hr1 := hc1
    try simp only [sq1,sq2,sq3,sq4,sq5,sq6,sq7,sq8,sq9,sq0] at hc1
    have hL := long_some (hbb.trans (by simpa using hcs26))
    rw [hX] at hL
    refine WC.skip ?_
    refine thenQ_n (hK8 _ _ ?_)
    refine WC.mid (fun f w => ∃ (sx : SlV) (l : List UInt8) (x : Ask), Fits [(2, .pointer (some ⟨b2, 0, none⟩)), (4, .pointer (some ⟨b12, 0, none⟩))] f ∧ St w0 [blkE b12 (Enc.enc (Cut.mk sx)) 187, blkE b2 (Enc.enc (x : Ask)) 174] w ∧ SlR w0 sx.v l ∧ (l.length = 32 → askF bs = some { x with owner := vecOf 32 l }) ∧ (l.length ≠ 32 → askF bs = some x)) ?_ ?_
    ·
     refine WC.seq (fun K12 hK12 => ?_)
     refine WC.region ?_
     refine WL.op rfl (opW.fieldAddrB rfl ?_)
     refine WL.op rfl (opW.loadV rfl (hS.ld1 (by repeat constructor) (Ask.at_tag _)) ?_)
     refine WL.nil ?_
     refine thenQ_n (hK12 _ _ ?_)
     refine WC.block ?_
     refine WC.mid (fun f w => ∃ (sx : SlV) (l : List UInt8) (c : Nat), Fits [(2, .pointer (some ⟨b2, 0, none⟩)), (4, .pointer (some ⟨b12, 0, none⟩))] f ∧ St w0 [blkE b12 (Enc.enc (Cut.mk sx)) 187, blkE b2 (Enc.enc (⟨(leN (bs.take 4)), c, 0, vz 32⟩ : Ask)) 174] w ∧ SlR w0 sx.v l ∧ 8 ≤ l.length ∧ (((leN (bs.take 4)) = 0 ∧ l = (bs.drop 4).drop 8 ∧ c = leN ((bs.drop 4).take 8) ∧ (bs.drop 4).length = 48) ∨ ((leN (bs.take 4)) = 8 ∧ l = (bs.drop 4) ∧ c = 0 ∧ (bs.drop 4).length = 8))) ?_ ?_
     ·
      refine WC.block ?_
      refine WC.seq (fun K13 hK13 => ?_)
      refine WC.block ?_
      refine WC.seq (fun K14 hK14 => ?_)
      refine WC.block ?_
      refine WC.seq (fun K15 hK15 => ?_)
      refine WC.seq (fun K16 hK16 => ?_)
      refine WC.seq (fun K17 hK17 => ?_)
      refine WC.region ?_
      refine WL.op rfl (opW.eql rfl rfl ?_)
      refine WL.op rfl (opW.assignB rfl ?_)
      refine WL.nil ?_
      refine thenQ_n (hK17 _ _ ?_)
      refine WC.cond _ rfl (fun hc2 => ?_) (fun hc2 => ?_)
      ·
       have hr2 := hc2
       try simp only [sq1,sq2,sq3,sq4,sq5,sq6,sq7,sq8,sq9,sq0] at hc2
       have hT2 : (leN (bs.take 4)) = 2 := by omega
       have hl8 : (bs.drop 4).length = 8 := by omega
       refine WC.exit ?_
       refine thenQ_e ?_
       refine thenQ_e ?_
       refine blockQ_hit ?_
       refine thenQ_n (hK14 _ _ ?_)
       refine WC.seq (fun K18 hK18 => ?_)
       refine WC.region ?_
       refine WL.op rfl (opW.moveV (v := .pointer (some ⟨b12, 0, none⟩)) rfl ?_)
       refine WL.op rfl (opW.call (cutnum_ok _ _ _ b12 s14 (bs.drop 4) 8 (hS.pick (e := blkE b12 (Enc.enc (Cut.mk s14)) 187) (by repeat constructor)) hs14 (by omega) (by omega) (by omega)) rfl ?_)
       rintro _ w ⟨s45, rfl, hs45, hS⟩
       refine WL.op rfl (opW.fieldAddrB rfl ?_)
       refine WL.op0 (opW.storeF (v := .int .u64 ((leN ((bs.drop 4).take 8) : Nat) : Int)) (sz := 1) (cs' := Enc.enc (⟨(leN (bs.take 4)), leN ((bs.drop 4).take 8), 0, vz 32⟩ : Ask)) hS rfl rfl (by repeat constructor) rfl (by rw [Enc.size_eq]; decide) (one_int _ _) (Ask.set_coins (⟨(leN (bs.take 4)), 0, 0, vz 32⟩ : Ask) (leN ((bs.drop 4).take 8))) ?_)
       intro w hS; replace hS := hS _ (by repeat constructor)
       refine WL.nil ?_
       refine thenQ_n (hK18 _ _ ?_)
       refine WC.exit ?_
       refine blockQ_miss rfl ?_
       refine thenQ_e ?_
       refine blockQ_miss rfl ?_
       refine thenQ_e ?_
       refine blockQ_hit ?_
       refine thenQ_n ?_
       first
        | exact ⟨s45, _, ⟨(leN (bs.take 4)), leN ((bs.drop 4).take 8), 0, vz 32⟩, ⟨rfl, rfl, trivial⟩, hS.sub (by repeat with_reducible first | exact su1 _ | exact su2 _ | refine su3 ?_ | refine su4 ?_), hs45, fun h => absurd h (by simp; omega), fun _ => by rw [askF2 h4 hT2 hl8, hT2]⟩
        | exact ⟨s51, _, ⟨(leN (bs.take 4)), c, leN (l.take 8), vz 32⟩, ⟨rfl, rfl, trivial⟩, hS.sub (by repeat with_reducible first | exact su1 _ | exact su2 _ | refine su3 ?_ | refine su4 ?_), hs51, fun h => (by rcases hcase with ⟨h0, rfl, rfl, hll⟩ | ⟨h0, rfl, rfl, hll⟩; rw [askF0 h4 h0 hll, h0]; simp [List.drop_drop]; simp at h; omega), fun h => (by rcases hcase with ⟨h0, rfl, rfl, hll⟩ | ⟨h0, rfl, rfl, hll⟩; exact absurd (by simp; omega) h; rw [askF8 h4 h0 hll, h0])⟩
        | exact ⟨s14, _, ⟨(leN (bs.take 4)), 0, 0, vz 32⟩, ⟨rfl, rfl, trivial⟩, hS.sub (by repeat with_reducible first | exact su1 _ | exact su2 _ | refine su3 ?_ | refine su4 ?_), hs14, fun _ => by rw [askF1 h4 hT1 hl32, hT1], fun h => absurd hl32 h⟩
      ·
       have hr2 := hc2
       try simp only [sq1,sq2,sq3,sq4,sq5,sq6,sq7,sq8,sq9,sq0] at hc2
       refine WC.skip ?_
       refine thenQ_n (hK16 _ _ ?_)
       refine WC.seq (fun K19 hK19 => ?_)
       refine WC.seq (fun K20 hK20 => ?_)
       refine WC.region ?_
       refine WL.op rfl (opW.eql rfl rfl ?_)
       refine WL.op rfl (opW.assignB rfl ?_)
       refine WL.nil ?_
       refine thenQ_n (hK20 _ _ ?_)
       refine WC.cond _ rfl (fun hc3 => ?_) (fun hc3 => ?_)
       ·
        have hr3 := hc3
        try simp only [sq1,sq2,sq3,sq4,sq5,sq6,sq7,sq8,sq9,sq0] at hc3
        have hT0 : (leN (bs.take 4)) = 0 := by omega
        have hl48 : (bs.drop 4).length = 48 := by omega
        refine WC.exit ?_
        refine thenQ_e ?_
        refine thenQ_e ?_
        refine blockQ_miss rfl ?_
        refine thenQ_e ?_
        refine blockQ_hit ?_
        refine thenQ_n (hK13 _ _ ?_)
        refine WC.region ?_
        refine WL.op rfl (opW.moveV (v := .pointer (some ⟨b12, 0, none⟩)) rfl ?_)
        refine WL.op rfl (opW.call (cutnum_ok _ _ _ b12 s14 (bs.drop 4) 8 (hS.pick (e := blkE b12 (Enc.enc (Cut.mk s14)) 187) (by repeat constructor)) hs14 (by omega) (by omega) (by omega)) rfl ?_)
        rintro _ w ⟨s48, rfl, hs48, hS⟩
        refine WL.op rfl (opW.fieldAddrB rfl ?_)
        refine WL.op0 (opW.storeF (v := .int .u64 ((leN ((bs.drop 4).take 8) : Nat) : Int)) (sz := 1) (cs' := Enc.enc (⟨(leN (bs.take 4)), leN ((bs.drop 4).take 8), 0, vz 32⟩ : Ask)) hS rfl rfl (by repeat constructor) rfl (by rw [Enc.size_eq]; decide) (one_int _ _) (Ask.set_coins (⟨(leN (bs.take 4)), 0, 0, vz 32⟩ : Ask) (leN ((bs.drop 4).take 8))) ?_)
        intro w hS; replace hS := hS _ (by repeat constructor)
        refine WL.nil ?_
        refine blockQ_n ?_
        refine thenQ_n ?_
        first | exact ⟨s48, _, _, ⟨rfl, rfl, trivial⟩, hS.sub (by repeat with_reducible first | exact su1 _ | exact su2 _ | refine su3 ?_ | refine su4 ?_), hs48, by simp; omega, .inl ⟨hT0, rfl, rfl, hl48⟩⟩ | exact ⟨s14, _, _, ⟨rfl, rfl, trivial⟩, hS.sub (by repeat with_reducible first | exact su1 _ | exact su2 _ | refine su3 ?_ | refine su4 ?_), hs14, by omega, .inr ⟨hT8, rfl, rfl, hl8⟩⟩
       ·
        have hr3 := hc3
        try simp only [sq1,sq2,sq3,sq4,sq5,sq6,sq7,sq8,sq9,sq0] at hc3
        refine WC.skip ?_
        refine thenQ_n (hK19 _ _ ?_)
        refine WC.seq (fun K21 hK21 => ?_)
        refine WC.region ?_
        refine WL.op rfl (opW.eql rfl rfl ?_)
        refine WL.op rfl (opW.assignB rfl ?_)
        refine WL.nil ?_
        refine thenQ_n (hK21 _ _ ?_)
        refine WC.cond _ rfl (fun hc4 => ?_) (fun hc4 => ?_)
        ·
         have hr4 := hc4
         try simp only [sq1,sq2,sq3,sq4,sq5,sq6,sq7,sq8,sq9,sq0] at hc4
         have hT8 : (leN (bs.take 4)) = 8 := by omega
         have hl8 : (bs.drop 4).length = 8 := by omega
         refine WC.exit ?_
         refine thenQ_e ?_
         refine blockQ_miss rfl ?_
         refine thenQ_e ?_
         refine blockQ_miss rfl ?_
         refine thenQ_e ?_
         refine blockQ_hit ?_
         refine thenQ_n ?_
         first | exact ⟨s48, _, _, ⟨rfl, rfl, trivial⟩, hS.sub (by repeat with_reducible first | exact su1 _ | exact su2 _ | refine su3 ?_ | refine su4 ?_), hs48, by simp; omega, .inl ⟨hT0, rfl, rfl, hl48⟩⟩ | exact ⟨s14, _, _, ⟨rfl, rfl, trivial⟩, hS.sub (by repeat with_reducible first | exact su1 _ | exact su2 _ | refine su3 ?_ | refine su4 ?_), hs14, by omega, .inr ⟨hT8, rfl, rfl, hl8⟩⟩
        ·
         have hr4 := hc4
         try simp only [sq1,sq2,sq3,sq4,sq5,sq6,sq7,sq8,sq9,sq0] at hc4
         have hT1 : (leN (bs.take 4)) = 1 := by omega
         have hl32 : (bs.drop 4).length = 32 := by omega
         refine WC.skip ?_
         refine thenQ_n (hK15 _ _ ?_)
         refine WC.exit ?_
         refine blockQ_miss rfl ?_
         refine thenQ_e ?_
         refine blockQ_miss rfl ?_
         refine thenQ_e ?_
         refine blockQ_miss rfl ?_
         refine thenQ_e ?_
         refine blockQ_hit ?_
         refine thenQ_n ?_
         first
          | exact ⟨s45, _, ⟨(leN (bs.take 4)), leN ((bs.drop 4).take 8), 0, vz 32⟩, ⟨rfl, rfl, trivial⟩, hS.sub (by repeat with_reducible first | exact su1 _ | exact su2 _ | refine su3 ?_ | refine su4 ?_), hs45, fun h => absurd h (by simp; omega), fun _ => by rw [askF2 h4 hT2 hl8, hT2]⟩
          | exact ⟨s51, _, ⟨(leN (bs.take 4)), c, leN (l.take 8), vz 32⟩, ⟨rfl, rfl, trivial⟩, hS.sub (by repeat with_reducible first | exact su1 _ | exact su2 _ | refine su3 ?_ | refine su4 ?_), hs51, fun h => (by rcases hcase with ⟨h0, rfl, rfl, hll⟩ | ⟨h0, rfl, rfl, hll⟩; rw [askF0 h4 h0 hll, h0]; simp [List.drop_drop]; simp at h; omega), fun h => (by rcases hcase with ⟨h0, rfl, rfl, hll⟩ | ⟨h0, rfl, rfl, hll⟩; exact absurd (by simp; omega) h; rw [askF8 h4 h0 hll, h0])⟩
          | exact ⟨s14, _, ⟨(leN (bs.take 4)), 0, 0, vz 32⟩, ⟨rfl, rfl, trivial⟩, hS.sub (by repeat with_reducible first | exact su1 _ | exact su2 _ | refine su3 ?_ | refine su4 ?_), hs14, fun _ => by rw [askF1 h4 hT1 hl32, hT1], fun h => absurd hl32 h⟩
     ·
      rintro f w ⟨sx, l, c, hfit, hS, hsx, h8l, hcase⟩
      refine WC.fits _ hfit (fun g => ?_)
      clear hfit
      refine WC.seq (fun K22 hK22 => ?_)
      refine WC.region ?_
      refine WL.op rfl (opW.moveV (v := .pointer (some ⟨b12, 0, none⟩)) rfl ?_)
      refine WL.op rfl (opW.call (cutnum_ok _ _ _ b12 sx l 8 (hS.pick (e := blkE b12 (Enc.enc (Cut.mk sx)) 187) (by repeat constructor)) hsx (by omega) (by omega) (by omega)) rfl ?_)
      rintro _ w ⟨s51, rfl, hs51, hS⟩
      refine WL.op rfl (opW.fieldAddrB rfl ?_)
      refine WL.op0 (opW.storeF (v := .int .u64 ((leN (l.take 8) : Nat) : Int)) (sz := 1) (cs' := Enc.enc (⟨(leN (bs.take 4)), c, leN (l.take 8), vz 32⟩ : Ask)) hS rfl rfl (by repeat constructor) rfl (by rw [Enc.size_eq]; decide) (one_int _ _) (Ask.set_space (⟨(leN (bs.take 4)), c, 0, vz 32⟩ : Ask) (leN (l.take 8))) ?_)
      intro w hS; replace hS := hS _ (by repeat constructor)
      refine WL.nil ?_
      refine thenQ_n (hK22 _ _ ?_)
      refine WC.exit ?_
      refine blockQ_hit ?_
      refine thenQ_n ?_
      first
       | exact ⟨s45, _, ⟨(leN (bs.take 4)), leN ((bs.drop 4).take 8), 0, vz 32⟩, ⟨rfl, rfl, trivial⟩, hS.sub (by repeat with_reducible first | exact su1 _ | exact su2 _ | refine su3 ?_ | refine su4 ?_), hs45, fun h => absurd h (by simp; omega), fun _ => by rw [askF2 h4 hT2 hl8, hT2]⟩
       | exact ⟨s51, _, ⟨(leN (bs.take 4)), c, leN (l.take 8), vz 32⟩, ⟨rfl, rfl, trivial⟩, hS.sub (by repeat with_reducible first | exact su1 _ | exact su2 _ | refine su3 ?_ | refine su4 ?_), hs51, fun h => (by rcases hcase with ⟨h0, rfl, rfl, hll⟩ | ⟨h0, rfl, rfl, hll⟩; rw [askF0 h4 h0 hll, h0]; simp [List.drop_drop]; simp at h; omega), fun h => (by rcases hcase with ⟨h0, rfl, rfl, hll⟩ | ⟨h0, rfl, rfl, hll⟩; exact absurd (by simp; omega) h; rw [askF8 h4 h0 hll, h0])⟩
       | exact ⟨s14, _, ⟨(leN (bs.take 4)), 0, 0, vz 32⟩, ⟨rfl, rfl, trivial⟩, hS.sub (by repeat with_reducible first | exact su1 _ | exact su2 _ | refine su3 ?_ | refine su4 ?_), hs14, fun _ => by rw [askF1 h4 hT1 hl32, hT1], fun h => absurd hl32 h⟩
    ·
     rintro f w ⟨sx, l, x, hfit, hS, hsx, hx1, hx2⟩
     refine WC.fits _ hfit (fun g => ?_)
     clear hfit
     refine WC.seq (fun K23 hK23 => ?_)
     refine WC.seq (fun K24 hK24 => ?_)
     refine WC.region ?_
     refine WL.op rfl (opW.moveV (v := .pointer (some ⟨b12, 0, none⟩)) rfl ?_)
     refine WL.op rfl (opW.nilCheckB rfl ?_)
     refine WL.op rfl (opW.fieldAddrB rfl ?_)
     refine WL.op rfl (opW.loadV rfl (hS.ld1 (by repeat constructor) (Cut.at_b _)) ?_)
     refine WL.op rfl (opW.lenV rfl ((hsx.bel hS.old)) ?_)
     refine WL.op rfl (opW.eql rfl rfl ?_)
     refine WL.nil ?_
     refine thenQ_n (hK24 _ _ ?_)
     refine WC.cond _ rfl (fun hc5 => ?_) (fun hc5 => ?_)
     ·
      have hr5 := hc5
      try simp only [sq1,sq2,sq3,sq4,sq5,sq6,sq7,sq8,sq9,sq0] at hc5
      have hl32 : l.length = 32 := by omega
      refine WC.region ?_
      refine WL.op rfl (opW.moveV (v := .pointer (some ⟨b12, 0, none⟩)) rfl ?_)
      refine WL.op rfl (opW.nilCheckB rfl ?_)
      refine WL.op rfl (opW.fieldAddrB rfl ?_)
      refine WL.op rfl (opW.loadV rfl (hS.ld1 (by repeat constructor) (Cut.at_b _)) ?_)
      refine WL.op rfl (opW.arrAt (n := 32) (xs := l) rfl (hsx.bel hS.old) hl32 (by omega) ?_)
      refine WL.op rfl (opW.loadV rfl (((hsx.bel hS.old).key (n := 31) hl32).ldA (Enc.size_eq _)) ?_)
      refine WL.op rfl (opW.fieldAddrB rfl ?_)
      refine WL.op0 (opW.storeF (v := .agg (Enc.enc (vecOf 32 l))) (sz := 32) (cs' := Enc.enc { x with owner := vecOf 32 l }) hS rfl rfl (by repeat constructor) (Enc.size_eq (vecOf 32 l)) (by rw [Enc.size_eq]; decide) (Enc.one (vecOf 32 l)) (Ask.set_owner x (vecOf 32 l)) ?_)
      intro w hS; replace hS := hS _ (by repeat constructor)
      refine WL.nil ?_
      refine thenQ_n (hK23 _ _ ?_)
      refine WC.seq (fun K25 hK25 => ?_)
      refine WC.region ?_
      refine WL.op rfl (opW.loadV rfl (by first | exact hS.ldA (by repeat constructor) (by first | rfl | exact Enc.size_eq _) | exact hS.ld1 (by repeat constructor) rfl) ?_)
      refine WL.op0 (opW.storeE hS rfl rfl (by repeat constructor) (by first | rfl | exact Enc.size_eq _) ?_)
      intro w hS; replace hS := hS _ (by repeat constructor)
      refine WL.op rfl (opW.assignB rfl ?_)
      refine WL.nil ?_
      refine thenQ_n (hK25 _ _ ?_)
      refine WC.ret ?_
      refine bodyQ_ret (.cell (by first | exact hS.ldA (by repeat constructor) (by first | rfl | exact Enc.size_eq _) | exact hS.ld1 (by repeat constructor) rfl) (.tmpB rfl .nil)) ?_
      exact ⟨_, true, rfl, by rw [hx1 hl32]; rfl, fun _ => hx1 hl32, hS.old⟩
     ·
      have hr5 := hc5
      try simp only [sq1,sq2,sq3,sq4,sq5,sq6,sq7,sq8,sq9,sq0] at hc5
      have hl32 : l.length ≠ 32 := by omega
      refine WC.skip ?_
      refine thenQ_n (hK23 _ _ ?_)
      refine WC.seq (fun K26 hK26 => ?_)
      refine WC.region ?_
      refine WL.op rfl (opW.loadV rfl (by first | exact hS.ldA (by repeat constructor) (by first | rfl | exact Enc.size_eq _) | exact hS.ld1 (by repeat constructor) rfl) ?_)
      refine WL.op0 (opW.storeE hS rfl rfl (by repeat constructor) (by first | rfl | exact Enc.size_eq _) ?_)
      intro w hS; replace hS := hS _ (by repeat constructor)
      refine WL.op rfl (opW.assignB rfl ?_)
      refine WL.nil ?_
      refine thenQ_n (hK26 _ _ ?_)
      refine WC.ret ?_
      refine bodyQ_ret (.cell (by first | exact hS.ldA (by repeat constructor) (by first | rfl | exact Enc.size_eq _) | exact hS.ld1 (by repeat constructor) rfl) (.tmpB rfl .nil)) ?_
      exact ⟨_, true, rfl, by rw [hx2 hl32]; rfl, fun _ => hx2 hl32, hS.old⟩

end Go.Fer
