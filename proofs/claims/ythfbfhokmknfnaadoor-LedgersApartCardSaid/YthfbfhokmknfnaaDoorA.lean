/- numbers, data, taken, what each tag does, Do -/
import Derived.Test.YthfbfhokmknfnaaDoorR
set_option linter.all false
namespace Go.Fer
open Go Go.Proofs Go.RowKit

/-- the number that bytes are, the lowest first -/
def leN : List UInt8 → Nat
 | [] => 0
 | c :: r => c.toNat + 256 * leN r
theorem leN_append (a b : List UInt8) : leN (a ++ b) = leN a + 2 ^ (8 * a.length) * leN b := by
 induction a with
 | nil => simp [leN]
 | cons c r ih =>
  simp only [List.cons_append, leN, ih, List.length_cons]
  rw [show 8 * (r.length + 1) = 8 * r.length + 8 by omega, Nat.pow_add, Nat.mul_add]
  have : 256 * (2 ^ (8 * r.length) * leN b) = 2 ^ (8 * r.length) * 2 ^ 8 * leN b := by rw [← Nat.mul_assoc, Nat.mul_comm 256]
  omega
theorem leN_lt (l : List UInt8) : leN l < 2 ^ (8 * l.length) := by
 induction l with
 | nil => simp [leN]
 | cons c r ih =>
  have := u8_lt c
  simp only [leN, List.length_cons]
  rw [show 8 * (r.length + 1) = 8 * r.length + 8 by omega, Nat.pow_add]
  omega
theorem leN_take {b : List UInt8} {k : Nat} (hk : k < b.length) : leN (b.take (k + 1)) = leN (b.take k) + b[k].toNat * 2 ^ (8 * k) := by
 rw [List.take_succ_eq_append_getElem hk, leN_append, List.length_take, Nat.min_eq_left (by omega)]
 simp [leN, Nat.mul_comm]
theorem leN_drop {b : List UInt8} {k m : Nat} (hm : m ≤ b.length) (hk : k < m) : leN ((b.take m).drop k) = b[k].toNat + 256 * leN ((b.take m).drop (k + 1)) := by
 rw [List.drop_eq_getElem_cons (by simp; omega)]
 simp [leN]
theorem leN_take_lt (b : List UInt8) (k : Nat) : leN (b.take k) < 2 ^ (8 * k) :=
 Nat.lt_of_lt_of_le (leN_lt _) (Nat.pow_le_pow_right (by omega) (by simp; omega))
theorem le_shl {c : UInt8} {k : Nat} (hk : k ≤ 7) : IntKind.u64.wrap ((c.toNat : Int) * 2 ^ (min (Int.toNat (8 * (k : Int))) IntKind.u64.bits)) = ((c.toNat * 2 ^ (8 * k) : Nat) : Int) := by
 have e : (8 * (k : Int)) = ((8 * k : Nat) : Int) := by omega
 rw [e]
 have := u8_lt c
 have hb : c.toNat * 2 ^ (8 * k) ≤ 255 * 2 ^ 56 := Nat.mul_le_mul (by omega) (Nat.pow_le_pow_right (by omega) (by omega))
 refine shl_u64 (by omega) (by simp) (by omega)
theorem le_or {c : UInt8} {k n : Nat} (hk : k ≤ 7) (hn : n < 2 ^ (8 * k)) : bitsI .or .u64 (n : Int) ((c.toNat * 2 ^ (8 * k) : Nat) : Int) = ((n + c.toNat * 2 ^ (8 * k) : Nat) : Int) := by
 have := u8_lt c
 have hb : c.toNat * 2 ^ (8 * k) ≤ 255 * 2 ^ 56 := Nat.mul_le_mul (by omega) (Nat.pow_le_pow_right (by omega) (by omega))
 have hp : 2 ^ (8 * k) ≤ 2 ^ 56 := Nat.pow_le_pow_right (by omega) (by omega)
 rw [bits_or_u64 _ _ (by omega) (by omega), or_add_low _ _ _ hn]
/-- a number off bytes: number, error -/
def getR (b : List UInt8) (m : Int) : Nat × Int := if m < 1 ∨ 8 < m then (0, 1) else if (b.length : Int) < m then (0, 5) else (leN (b.take m.toNat), 0)
theorem getR_ok {b : List UInt8} {m : Nat} (h1 : 1 ≤ m) (h8 : m ≤ 8) (hl : m ≤ b.length) : getR b m = (leN (b.take m), 0) := by
 unfold getR; rw [if_neg (by omega), if_neg (by omega)]; simp

theorem get_le (w0 : World) (v : Value) (b : List UInt8) (many : Int) (hx : SlR w0 v b) : Ret Tryd.prog 75 #[v, .int .i64 many] w0 (fun u w' => u = .tuple #[.int .u64 ((getR b many).1 : Int), .int .i64 (getR b many).2] ∧ Bel w0 w') := by
 refine Ret.enter (args := [v, .int .i64 many]) Tryd.func75 rfl Tryd.ntmps75 Tryd.results75 rfl ?_
 have hS := St.start w0
 refine WC.seq (fun K1 hK1 => ?_)
 refine WC.region ?_
 refine WL.op rfl (opW.assignI rfl ?_)
 refine WL.op rfl (opW.assignI rfl ?_)
 refine WL.nil ?_
 refine thenQ_n (hK1 _ _ ?_)
 refine WC.seq (fun K2 hK2 => ?_)
 refine WC.block ?_
 refine WC.seq (fun K3 hK3 => ?_)
 refine WC.region ?_
 refine WL.op rfl (opW.moveI rfl ?_)
 refine WL.op rfl (opW.lss rfl rfl ?_)
 refine WL.op rfl (opW.moveB rfl ?_)
 refine WL.gd _ 10 _ rfl rfl rfl rfl (fun hg11 => opW.moveI rfl ⟨rfl, Bel.refl _⟩) (fun w hw => ?_)
 replace hS := hS.bel hw
 refine WL.gd _ 10 _ rfl rfl rfl rfl (fun hg12 => opW.gtr (by first | exact gv_of rfl hg12 | rfl) rfl ⟨rfl, Bel.refl _⟩) (fun w hw => ?_)
 replace hS := hS.bel hw
 refine WL.op rfl (opW.pickOr rfl rfl (by first | rfl) ?_)
 refine WL.op rfl (opW.assignB rfl ?_)
 refine WL.nil ?_
 refine thenQ_n (hK3 _ _ ?_)
 refine WC.cond _ rfl (fun hc0 => ?_) (fun hc0 => ?_)
 ·
  have hr0 := hc0
  try simp only [sq1,sq2,sq3,sq4,sq5,sq6,sq7,sq8,sq9,sq0] at hc0
  refine WC.seq (fun K4 hK4 => ?_)
  refine WC.region ?_
  refine WL.op rfl (opW.assignI rfl ?_)
  refine WL.op rfl (opW.assignI rfl ?_)
  refine WL.nil ?_
  refine thenQ_n (hK4 _ _ ?_)
  refine WC.ret ?_
  refine blockQ_r ?_
  refine thenQ_r ?_
  refine bodyQ_ret (.tmpI rfl (.tmpI rfl .nil)) ?_
  refine ⟨?_, hS.old⟩
  rw [show getR b many = (0, 1) from if_pos hc0]
  rfl
 ·
  have hr0 := hc0
  try simp only [sq1,sq2,sq3,sq4,sq5,sq6,sq7,sq8,sq9,sq0] at hc0
  refine WC.seq (fun K5 hK5 => ?_)
  refine WC.region ?_
  refine WL.op rfl (opW.moveV (v := v) rfl ?_)
  refine WL.op rfl (opW.lenV rfl ((hx.bel hS.old)) ?_)
  refine WL.op rfl (opW.moveI rfl ?_)
  refine WL.op rfl (opW.lss rfl rfl ?_)
  refine WL.op rfl (opW.assignB rfl ?_)
  refine WL.nil ?_
  refine thenQ_n (hK5 _ _ ?_)
  refine WC.cond _ rfl (fun hc1 => ?_) (fun hc1 => ?_)
  ·
   have hr1 := hc1
   try simp only [sq1,sq2,sq3,sq4,sq5,sq6,sq7,sq8,sq9,sq0] at hc1
   refine WC.seq (fun K6 hK6 => ?_)
   refine WC.region ?_
   refine WL.op rfl (opW.assignI rfl ?_)
   refine WL.op rfl (opW.assignI rfl ?_)
   refine WL.nil ?_
   refine thenQ_n (hK6 _ _ ?_)
   refine WC.ret ?_
   refine blockQ_r ?_
   refine thenQ_r ?_
   refine bodyQ_ret (.tmpI rfl (.tmpI rfl .nil)) ?_
   refine ⟨?_, hS.old⟩
   rw [show getR b many = (0, 5) from by unfold getR; rw [if_neg (by omega), if_pos hc1]]
   rfl
  ·
   have hr1 := hc1
   try simp only [sq1,sq2,sq3,sq4,sq5,sq6,sq7,sq8,sq9,sq0] at hc1
   obtain ⟨mm, rfl⟩ : ∃ mm : Nat, many = (mm : Int) := ⟨many.toNat, by omega⟩
   have hR := getR_ok (b := b) (m := mm) (by omega) (by omega) (by omega)
   rw [hR]
   refine WC.skip ?_
   refine blockQ_n ?_
   refine thenQ_n (hK2 _ _ ?_)
   refine WC.seq (fun K7 hK7 => ?_)
   refine WC.seq (fun K8 hK8 => ?_)
   refine WC.region ?_
   refine WL.op rfl (opW.moveI rfl ?_)
   refine WL.op rfl (opW.moveI rfl ?_)
   refine WL.nil ?_
   refine thenQ_n (hK8 _ _ ?_)
   refine WC.block ?_
   refine WC.loop (fun m f w => ∃ k : Nat, Fits [(0, v), (4, .int .u64 (leN (b.take k) : Int)), (19, .int .i64 (mm : Int)), (20, .int .i64 (k : Int))] f ∧ St w0 [] w ∧ k ≤ mm ∧ m = mm - k) (mm) ?_ ?_
   ·
    exact ⟨0, ⟨rfl, rfl, rfl, rfl, trivial⟩, hS, Nat.zero_le _, rfl⟩
   ·
    rintro m f w ⟨k, hfit, hS, hk, hm⟩
    refine WC.fits _ hfit (fun g => ?_)
    clear hfit
    refine WC.seq (fun K9 hK9 => ?_)
    refine WC.region ?_
    refine WL.op rfl (opW.lss rfl rfl ?_)
    refine WL.nil ?_
    refine thenQ_n (hK9 _ _ ?_)
    refine WC.seq (fun K10 hK10 => ?_)
    refine WC.cond _ rfl (fun hc2 => ?_) (fun hc2 => ?_)
    ·
     have hr2 := hc2
     try simp only [sq1,sq2,sq3,sq4,sq5,sq6,sq7,sq8,sq9,sq0] at hc2
     have hkl : k < b.length := by omega
     have hlt := u8_lt b[k]
     refine WC.skip ?_
     refine thenQ_n (hK10 _ _ ?_)
     refine WC.seq (fun K11 hK11 => ?_)
     refine WC.block ?_
     refine WC.seq (fun K12 hK12 => ?_)
     refine WC.region ?_
     refine WL.op rfl (opW.moveI rfl ?_)
     refine WL.op rfl (opW.assignI rfl ?_)
     refine WL.nil ?_
     refine thenQ_n (hK12 _ _ ?_)
     refine WC.region ?_
     refine WL.op rfl (opW.moveI rfl ?_)
     refine WL.op rfl (opW.moveV (v := v) rfl ?_)
     refine WL.op rfl (opW.moveI rfl ?_)
     refine WL.op rfl (opW.idxV rfl ((hx.bel hS.old)) rfl (by omega) ?_)
     refine WL.op rfl (opW.loadV rfl (((hx.bel hS.old).isPt hkl).ld rfl) ?_)
     refine WL.op rfl (opW.conv rfl (wrap_u64 (by omega)) ?_)
     refine WL.op rfl (opW.moveI rfl ?_)
     refine WL.op rfl (opW.mul rfl rfl (wrap_i64 (by omega)) ?_)
     refine WL.op rfl (opW.shl rfl rfl (by omega) (le_shl (by omega)) ?_)
     refine WL.op rfl (opW.or rfl rfl (le_or (by omega) (leN_take_lt _ _)) ?_)
     refine WL.op rfl (opW.assignI rfl ?_)
     refine WL.nil ?_
     refine blockQ_n ?_
     refine thenQ_n (hK11 _ _ ?_)
     refine WC.region ?_
     refine WL.op rfl (opW.add rfl rfl (wrap_i64 (by omega)) ?_)
     refine WL.op rfl (opW.moveI rfl ?_)
     refine WL.nil ?_
     refine thenQ_n ?_
     refine ⟨mm - (k + 1), by omega, k + 1, ⟨rfl, congrArg (fun n : Nat => Value.int .u64 (n : Int)) (leN_take hkl).symm, rfl, congrArg (Value.int .i64) (by omega), trivial⟩, hS, by omega, rfl⟩
    ·
     have hr2 := hc2
     try simp only [sq1,sq2,sq3,sq4,sq5,sq6,sq7,sq8,sq9,sq0] at hc2
     refine WC.exit ?_
     refine thenQ_e ?_
     refine thenQ_e ?_
     refine blockQ_hit ?_
     refine thenQ_n (hK7 _ _ ?_)
     refine WC.seq (fun K13 hK13 => ?_)
     refine WC.region ?_
     refine WL.op rfl (opW.moveI rfl ?_)
     refine WL.op rfl (opW.assignI rfl ?_)
     refine WL.op rfl (opW.assignI rfl ?_)
     refine WL.nil ?_
     refine thenQ_n (hK13 _ _ ?_)
     refine WC.ret ?_
     refine bodyQ_ret (.tmpI rfl (.tmpI rfl .nil)) ?_
     have : k = mm := by omega
     subst this
     refine ⟨?_, hS.old⟩
     rw [hR]
     rfl

def need (t : Nat) : Nat := if t = 0 ∨ t = 2 then 2 else 1
def longK : List (U64 × Int) := [(⟨0⟩, 48), (⟨1⟩, 32), (⟨2⟩, 8), (⟨8⟩, 8)]
/-- what an instruction's data ask for -/
def askF (b : List UInt8) : Option Ask :=
 if b.length < 4 then none else
 let t := leN (b.take 4)
 let r := b.drop 4
 if t = 0 ∧ r.length = 48 then some ⟨0, leN (r.take 8), leN ((r.drop 8).take 8), vecOf 32 (r.drop 16)⟩
 else if t = 1 ∧ r.length = 32 then some ⟨1, 0, 0, vecOf 32 r⟩
 else if t = 2 ∧ r.length = 8 then some ⟨2, leN (r.take 8), 0, vz 32⟩
 else if t = 8 ∧ r.length = 8 then some ⟨8, 0, leN (r.take 8), vz 32⟩
 else none
theorem askF_ne {b : List UInt8} (h4 : ¬ b.length < 4) (h : ¬ ((leN (b.take 4) = 0 ∧ (b.drop 4).length = 48) ∨ (leN (b.take 4) = 1 ∧ (b.drop 4).length = 32) ∨ (leN (b.take 4) = 2 ∧ (b.drop 4).length = 8) ∨ (leN (b.take 4) = 8 ∧ (b.drop 4).length = 8))) : askF b = none := by
 unfold askF
 rw [if_neg h4]
 simp only
 rw [if_neg (fun e => h (.inl e)), if_neg (fun e => h (.inr (.inl e))), if_neg (fun e => h (.inr (.inr (.inl e)))), if_neg (fun e => h (.inr (.inr (.inr e))))]
theorem askF0 {b : List UInt8} (h4 : ¬ b.length < 4) (ht : leN (b.take 4) = 0) (hl : (b.drop 4).length = 48) : askF b = some ⟨0, leN ((b.drop 4).take 8), leN (((b.drop 4).drop 8).take 8), vecOf 32 ((b.drop 4).drop 16)⟩ := by
 unfold askF; rw [if_neg h4]; simp only; rw [if_pos ⟨ht, hl⟩]
theorem askF1 {b : List UInt8} (h4 : ¬ b.length < 4) (ht : leN (b.take 4) = 1) (hl : (b.drop 4).length = 32) : askF b = some ⟨1, 0, 0, vecOf 32 (b.drop 4)⟩ := by
 unfold askF; rw [if_neg h4]; simp only; rw [if_neg (by omega), if_pos ⟨ht, hl⟩]
theorem askF2 {b : List UInt8} (h4 : ¬ b.length < 4) (ht : leN (b.take 4) = 2) (hl : (b.drop 4).length = 8) : askF b = some ⟨2, leN ((b.drop 4).take 8), 0, vz 32⟩ := by
 unfold askF; rw [if_neg h4]; simp only; rw [if_neg (by omega), if_neg (by omega), if_pos ⟨ht, hl⟩]
theorem askF8 {b : List UInt8} (h4 : ¬ b.length < 4) (ht : leN (b.take 4) = 8) (hl : (b.drop 4).length = 8) : askF b = some ⟨8, 0, leN ((b.drop 4).take 8), vz 32⟩ := by
 unfold askF; rw [if_neg h4]; simp only; rw [if_neg (by omega), if_neg (by omega), if_neg (by omega), if_pos ⟨ht, hl⟩]
theorem long_none {t : Nat} (h : (aget (⟨t⟩ : U64) longK).isSome = false) : t ≠ 0 ∧ t ≠ 1 ∧ t ≠ 2 ∧ t ≠ 8 := by
 simp only [longK, aget, U64.mk.injEq] at h
 refine ⟨?_, ?_, ?_, ?_⟩ <;> (rintro rfl; simp at h)
theorem long_some {t : Nat} (h : (aget (⟨t⟩ : U64) longK).isSome = true) : (t = 0 ∧ (aget (⟨t⟩ : U64) longK).getD 0 = 48) ∨ (t = 1 ∧ (aget (⟨t⟩ : U64) longK).getD 0 = 32) ∨ (t = 2 ∧ (aget (⟨t⟩ : U64) longK).getD 0 = 8) ∨ (t = 8 ∧ (aget (⟨t⟩ : U64) longK).getD 0 = 8) := by
 by_cases h0 : t = 0
 ·subst h0; exact .inl ⟨rfl, rfl⟩
 by_cases h1 : t = 1
 ·subst h1; exact .inr (.inl ⟨rfl, rfl⟩)
 by_cases h2 : t = 2
 ·subst h2; exact .inr (.inr (.inl ⟨rfl, rfl⟩))
 by_cases h8 : t = 8
 ·subst h8; exact .inr (.inr (.inr ⟨rfl, rfl⟩))
 exfalso
 simp only [longK, aget, U64.mk.injEq] at h
 simp [h0, h1, h2, h8, Ne.symm h0, Ne.symm h1, Ne.symm h2, Ne.symm h8, eq_comm] at h
theorem vi64_one (n : Int) : (Value.int .i64 n).cells = #[.int .i64 n] := rfl

theorem cutnum_ok (wb w0 : World) (S : List Ent) (p : Nat) (s : SlV) (bs : List UInt8) (m : Nat) (hS0 : St wb (blkE p (Enc.enc (Cut.mk s)) 174 :: S) w0) (hb : SlR wb s.v bs) (h1 : 1 ≤ m) (h8 : m ≤ 8) (hm : m ≤ bs.length) : Ret Tryd.prog 68 #[.pointer (some ⟨p, 0, none⟩), .int .i64 (m : Int)] w0 (fun u w' => ∃ s' : SlV, u = .int .u64 ((leN (bs.take m) : Nat) : Int) ∧ SlR wb s'.v (bs.drop m) ∧ St wb (blkE p (Enc.enc (Cut.mk s')) 174 :: S) w') := by
 refine Ret.enter (args := [.pointer (some ⟨p, 0, none⟩), .int .i64 (m : Int)]) Tryd.func68 rfl Tryd.ntmps68 Tryd.results68 rfl ?_
 have hS := St.start w0
 replace hS := hS0
 refine WC.seq (fun K1 hK1 => ?_)
 refine WC.region ?_
 refine WL.op rfl (opW.assignI rfl ?_)
 refine WL.nil ?_
 refine thenQ_n (hK1 _ _ ?_)
 refine WC.seq (fun K2 hK2 => ?_)
 refine WC.region ?_
 refine WL.op rfl (opW.moveV (v := .pointer (some ⟨p, 0, none⟩)) rfl ?_)
 refine WL.op rfl (opW.nilCheckB rfl ?_)
 refine WL.op rfl (opW.fieldAddrB rfl ?_)
 refine WL.op rfl (opW.loadV rfl (hS.ld1 (by repeat constructor) (Cut.at_b _)) ?_)
 refine WL.op rfl (opW.moveI rfl ?_)
 refine WL.op rfl (opW.call (get_le _ s.v bs (m : Int) (hb.bel hS.old)) rfl ?_)
 rintro _ w ⟨rfl, hw⟩; replace hS := hS.bel hw
 rw [getR_ok h1 h8 hm]
 refine WL.op rfl (opW.moveV (v := .tuple #[.int .u64 ((leN (bs.take m) : Nat) : Int), .int .i64 0]) rfl ?_)
 refine WL.op rfl (opW.extract rfl rfl ?_)
 refine WL.op rfl (opW.extract rfl rfl ?_)
 refine WL.op rfl (opW.assignI rfl ?_)
 refine WL.op rfl (opW.assignI rfl ?_)
 refine WL.nil ?_
 refine thenQ_n (hK2 _ _ ?_)
 refine WC.seq (fun K3 hK3 => ?_)
 refine WC.region ?_
 obtain ⟨s2, hs2⟩ : ∃ s2 : SlV, (cutV s.v m bs.length (capV s.v) (Enc.sz UInt8)) = s2.v := by
  have h := hb.cut (l := m) (h := bs.length) (m := capV s.v) hm (Nat.le_refl _) hb.cap (Nat.le_refl _)
  exact h.asV
 have hc2 : SlR wb s2.v (bs.drop m) := by
  have h := hb.cut (l := m) (h := bs.length) (m := capV s.v) hm (Nat.le_refl _) hb.cap (Nat.le_refl _)
  rw [hs2, List.take_length] at h; exact h
 refine WL.op rfl (opW.moveV (v := .pointer (some ⟨p, 0, none⟩)) rfl ?_)
 refine WL.op rfl (opW.moveV (v := .pointer (some ⟨p, 0, none⟩)) rfl ?_)
 refine WL.op rfl (opW.nilCheckB rfl ?_)
 refine WL.op rfl (opW.fieldAddrB rfl ?_)
 refine WL.op rfl (opW.loadV rfl (hS.ld1 (by repeat constructor) (Cut.at_b _)) ?_)
 refine WL.op rfl (opW.moveI rfl ?_)
 refine WL.op rfl (opW.cutS (l := m) (h' := bs.length) (m := capV s.v) (hb.bel hS.old) ⟨rfl, Nat.le_refl _⟩ ⟨⟨rfl, rfl⟩, hb.cap⟩ ⟨⟨_, rfl⟩, hm⟩ ?_)
 refine WL.op rfl (opW.nilCheckB rfl ?_)
 refine WL.op rfl (opW.fieldAddrB rfl ?_)
 refine WL.op0 (opW.storeF (v := s2.v) (sz := 1) (cs' := Enc.enc (Cut.mk s2)) hS rfl hs2 (by repeat constructor) rfl (by rw [Enc.size_eq]; decide) (Enc.one (α := SlV) s2) (Cut.set_b (Cut.mk s) s2) ?_)
 intro w hS; replace hS := hS _ (by repeat constructor)
 refine WL.nil ?_
 refine thenQ_n (hK3 _ _ ?_)
 refine WC.seq (fun K4 hK4 => ?_)
 refine WC.region ?_
 refine WL.op rfl (opW.moveI rfl ?_)
 refine WL.op rfl (opW.assignI rfl ?_)
 refine WL.nil ?_
 refine thenQ_n (hK4 _ _ ?_)
 refine WC.ret ?_
 refine bodyQ_ret (.tmpI rfl .nil) ?_
 exact ⟨s2, rfl, hc2, hS⟩

theorem ask_zero : (joinA [#[.int .u64 0], #[.int .u64 0], #[.int .u64 0], (Array.replicate 32 (.int .u8 0))]) = Enc.enc (⟨0, 0, 0, vz 32⟩ : Ask) := by
 simp only [Ask.enc_eq, Ask.parts, enc_vz]; rfl

theorem longK_eq : aput (⟨8⟩ : U64) (8 : Int) (aput ⟨2⟩ 8 (aput ⟨1⟩ 32 (aput ⟨0⟩ 48 []))) = longK := by decide
theorem getR4 {b : List UInt8} (h : ¬ b.length < 4) : (b.drop 4).length = b.length - 4 := by simp
theorem leN_lt64 (b : List UInt8) {m : Nat} (hm : m ≤ 8) : leN (b.take m) < 18446744073709551616 := by
 have := leN_take_lt b m
 have h2 : 2 ^ (8 * m) ≤ 2 ^ 64 := Nat.pow_le_pow_right (by omega) (by omega)
 omega

set_option maxHeartbeats 2000000 in
theorem data_ok (w0 : World) (v : Value) (bs : List UInt8) (hx0 : SlR w0 v bs) : Ret Tryd.prog 64 #[v] w0 (fun u w' => ∃ (x : Ask) (b : Bool), u = .tuple #[.agg (Enc.enc x), .bool b] ∧ b = (askF bs).isSome ∧ (b = true → askF bs = some x) ∧ Bel w0 w') := by
 refine Ret.enter (args := [v]) Tryd.func64 rfl Tryd.ntmps64 Tryd.results64 rfl ?_
 have hS := St.start w0
 obtain ⟨s0, rfl⟩ := hx0.asV
 have hx := hx0
 refine WC.seq (fun K1 hK1 => ?_)
 refine WC.region ?_
 refine WL.op rfl (opW.allocA hS ?_)
 intro b2 w _ hS
 refine WL.op rfl (opW.assignB rfl ?_)
 rw [ask_zero] at hS
 refine WL.nil ?_
 refine thenQ_n (hK1 _ _ ?_)
 refine WC.seq (fun K2 hK2 => ?_)
 refine WC.seq (fun K3 hK3 => ?_)
 refine WC.region ?_
 refine WL.op rfl (opW.moveV (v := s0.v) rfl ?_)
 refine WL.op rfl (opW.lenV rfl ((hx.bel hS.old)) ?_)
 refine WL.op rfl (opW.lss rfl rfl ?_)
 refine WL.nil ?_
 refine thenQ_n (hK3 _ _ ?_)
 refine WC.cond _ rfl (fun hc0 => ?_) (fun hc0 => ?_)
 ·
  have hr0 := hc0
  try simp only [sq1,sq2,sq3,sq4,sq5,sq6,sq7,sq8,sq9,sq0] at hc0
  refine WC.seq (fun K4 hK4 => ?_)
  refine WC.region ?_
  refine WL.op rfl (opW.loadV rfl (hS.ldA (cs := Enc.enc (⟨0, 0, 0, vz 32⟩ : Ask)) (by repeat constructor) (Enc.size_eq _)) ?_)
  refine WL.op0 (opW.storeE hS rfl rfl (by repeat constructor) (by first | rfl | exact Enc.size_eq _) ?_)
  intro w hS; replace hS := hS _ (by repeat constructor)
  refine WL.op rfl (opW.assignB rfl ?_)
  refine WL.nil ?_
  refine thenQ_n (hK4 _ _ ?_)
  refine WC.ret ?_
  refine thenQ_r ?_
  refine bodyQ_ret (.cell (by first | exact hS.ldA (by repeat constructor) (by first | rfl | exact Enc.size_eq _) | exact hS.ld1 (by repeat constructor) rfl) (.tmpB rfl .nil)) ?_
  exact ⟨_, false, rfl, by unfold askF; rw [if_pos (by omega)]; rfl, fun h => (by cases h), hS.old⟩
 ·
  have hr0 := hc0
  try simp only [sq1,sq2,sq3,sq4,sq5,sq6,sq7,sq8,sq9,sq0] at hc0
  have h4 : ¬ bs.length < 4 := by omega
  have hr4 := getR4 h4
  refine WC.skip ?_
  refine thenQ_n (hK2 _ _ ?_)
  refine WC.seq (fun K5 hK5 => ?_)
  refine WC.region ?_
  refine WL.op rfl (opW.moveV (v := s0.v) rfl ?_)
  refine WL.op rfl (opW.buildE (r := ((Cut.mk s0) : Cut)) (ps := Cut.parts ((Cut.mk s0) : Cut)) (Cut.enc_eq _) (by first | rfl | (simp only [enc_vset, enc_vz, Account.enc_eq, Account.parts, Role.enc_eq, Role.parts, Instr.enc_eq, Instr.parts, Ask.enc_eq, Ask.parts, Cut.enc_eq, Cut.parts, PairS.enc_eq, PairS.parts, Header.enc_eq, Header.parts, Lookup.enc_eq, Lookup.parts, Message.enc_eq, Message.parts, Tx.enc_eq, Tx.parts, Budget.enc_eq, Budget.parts, Ready.enc_eq, Ready.parts, Holding.enc_eq, Holding.parts, Outcome.enc_eq, Outcome.parts, Running.enc_eq, Running.parts]; rfl)) (by (repeat' (first | exact trivial | refine And.intro ?_ ?_)) <;> first | rfl | exact Enc.size_eq _ | (simp; done)) ?_)
  refine WL.op rfl (opW.boxA hS rfl ?_)
  intro b12 w _ hS
  refine WL.op rfl (opW.assignV (v := .pointer (some ⟨b12, 0, none⟩)) rfl ?_)
  refine WL.nil ?_
  refine thenQ_n (hK5 _ _ ?_)
  refine WC.seq (fun K6 hK6 => ?_)
  refine WC.region ?_
  refine WL.op rfl (opW.moveV (v := .pointer (some ⟨b12, 0, none⟩)) rfl ?_)
  refine WL.op rfl (opW.call (cutnum_ok _ _ _ b12 s0 bs 4 (hS.pick (e := blkE b12 (Enc.enc (Cut.mk s0)) 174) (by repeat constructor)) hx (by omega) (by omega) (by omega)) rfl ?_)
  rintro _ w ⟨s14, rfl, hs14, hS⟩
  refine WL.op rfl (opW.fieldAddrB rfl ?_)
  refine WL.op0 (opW.storeF (v := .int .u64 (((leN (bs.take 4)) : Nat) : Int)) (sz := 1) (cs' := Enc.enc (⟨(leN (bs.take 4)), 0, 0, vz 32⟩ : Ask)) hS rfl rfl (by repeat constructor) rfl (by rw [Enc.size_eq]; decide) (one_int _ _) (Ask.set_tag (⟨0, 0, 0, vz 32⟩ : Ask) ((leN (bs.take 4)))) ?_)
  intro w hS; replace hS := hS _ (by repeat constructor)
  refine WL.nil ?_
  refine thenQ_n (hK6 _ _ ?_)
  refine WC.seq (fun K7 hK7 => ?_)
  refine WC.region ?_
  obtain ⟨X, hX⟩ : ∃ X, (aget (⟨(leN (bs.take 4))⟩ : U64) longK).getD 0 = X := ⟨_, rfl⟩
  obtain ⟨bb, hbb⟩ : ∃ bb, (aget (⟨(leN (bs.take 4))⟩ : U64) longK).isSome = bb := ⟨_, rfl⟩
  refine WL.op rfl (opW.makeMap U64 (Value.int .i64 : Int → Value) hS ?_)
  intro r17 w _ hS
  refine WL.op0 (opW.insert (κ := U64) (ν := Int) (k := ⟨0⟩) (v := 48) (vv := Value.int .i64) (kvs := []) hS (by repeat constructor) rfl rfl rfl ?_)
  intro w hS; replace hS := hS _ (by repeat constructor)
  refine WL.op0 (opW.insert (κ := U64) (ν := Int) (k := ⟨1⟩) (v := 32) (vv := Value.int .i64) (kvs := aput ⟨0⟩ 48 []) hS (by repeat constructor) rfl rfl rfl ?_)
  intro w hS; replace hS := hS _ (by repeat constructor)
  refine WL.op0 (opW.insert (κ := U64) (ν := Int) (k := ⟨2⟩) (v := 8) (vv := Value.int .i64) (kvs := aput ⟨1⟩ 32 (aput ⟨0⟩ 48 [])) hS (by repeat constructor) rfl rfl rfl ?_)
  intro w hS; replace hS := hS _ (by repeat constructor)
  refine WL.op0 (opW.insert (κ := U64) (ν := Int) (k := ⟨8⟩) (v := 8) (vv := Value.int .i64) (kvs := aput ⟨2⟩ 8 (aput ⟨1⟩ 32 (aput ⟨0⟩ 48 []))) hS (by repeat constructor) rfl rfl rfl ?_)
  intro w hS; replace hS := hS _ (by repeat constructor)
  rw [longK_eq] at hS
  refine WL.op rfl (opW.moveV (v := .map (some r17)) rfl ?_)
  refine WL.op rfl (opW.fieldAddrB rfl ?_)
  refine WL.op rfl (opW.loadV rfl (hS.ld1 (by repeat constructor) (Ask.at_tag _)) ?_)
  refine WL.op rfl (opW.lookup2Z (κ := U64) (ν := Int) (k := ⟨(leN (bs.take 4))⟩) (vv := Value.int .i64) (kvs := longK) (z0 := 0) (u := X) inferInstance (hS.map (by repeat constructor)) rfl rfl hX ?_)
  rw [hbb]
  refine WL.op rfl (opW.moveV (v := .tuple #[.int .i64 X, .bool bb]) rfl ?_)
  refine WL.op rfl (opW.extract rfl rfl ?_)
  refine WL.op rfl (opW.extract rfl rfl ?_)
  refine WL.op rfl (opW.assignI rfl ?_)
  refine WL.op rfl (opW.assignB rfl ?_)
  refine WL.nil ?_
  refine thenQ_n (hK7 _ _ ?_)
  refine WC.seq (fun K8 hK8 => ?_)
  refine WC.seq (fun K9 hK9 => ?_)
  refine WC.region ?_
  refine WL.op rfl (opW.moveB rfl ?_)
  refine WL.op rfl (opW.not rfl ?_)
  refine WL.op rfl (opW.moveB rfl ?_)
  cases hcs26 : (!bb) with
  | true =>
   refine WL.gF 26 rfl rfl rfl rfl ?_
   refine WL.gF 26 rfl rfl rfl rfl ?_
   refine WL.gF 26 rfl rfl rfl rfl ?_
   refine WL.gF 26 rfl rfl rfl rfl ?_
   refine WL.gF 26 rfl rfl rfl rfl ?_
   refine WL.gF 26 rfl rfl rfl rfl ?_
   refine WL.gF 26 rfl rfl rfl rfl ?_
   refine WL.op rfl (opW.pickT rfl rfl ?_)
   refine WL.nil ?_
   refine thenQ_n (hK9 _ _ ?_)
   refine WC.cond _ rfl (fun hc1 => ?_) (fun hc1 => ?_)
   ·
    have hr1 := hc1
    try simp only [sq1,sq2,sq3,sq4,sq5,sq6,sq7,sq8,sq9,sq0] at hc1
    refine WC.seq (fun K10 hK10 => ?_)
    refine WC.region ?_
    refine WL.op rfl (opW.loadV rfl (by first | exact hS.ldA (by repeat constructor) (by first | rfl | exact Enc.size_eq _) | exact hS.ld1 (by repeat constructor) rfl) ?_)
    refine WL.op0 (opW.storeE hS rfl rfl (by repeat constructor) (by first | rfl | exact Enc.size_eq _) ?_)
    intro w hS; replace hS := hS _ (by repeat constructor)
    refine WL.op rfl (opW.assignB rfl ?_)
    refine WL.nil ?_
    refine thenQ_n (hK10 _ _ ?_)
    refine WC.ret ?_
    refine thenQ_r ?_
    refine bodyQ_ret (.cell (by first | exact hS.ldA (by repeat constructor) (by first | rfl | exact Enc.size_eq _) | exact hS.ld1 (by repeat constructor) rfl) (.tmpB rfl .nil)) ?_
    have hn := long_none (hbb.trans (by simpa using hcs26))
    exact ⟨_, false, rfl, by rw [askF_ne h4 (by omega)]; rfl, fun h => (by cases h), hS.old⟩
   ·
    have hr1 := hc1
    try simp only [sq1,sq2,sq3,sq4,sq5,sq6,sq7,sq8,sq9,sq0] at hc1
    exact absurd hr1 (by decide)
  | false =>
   refine WL.gT 26 rfl rfl rfl (WL.op rfl (opW.moveV (v := .pointer (some ⟨b12, 0, none⟩)) rfl ?_))
   refine WL.gT 26 rfl rfl rfl (WL.op rfl (opW.nilCheckB rfl ?_))
   refine WL.gT 26 rfl rfl rfl (WL.op rfl (opW.fieldAddrB rfl ?_))
   refine WL.gT 26 rfl rfl rfl (WL.op rfl (opW.loadV rfl (hS.ld1 (by repeat constructor) (Cut.at_b _)) ?_))
   refine WL.gT 26 rfl rfl rfl (WL.op rfl (opW.lenV rfl ((hs14.bel hS.old)) ?_))
   refine WL.gT 26 rfl rfl rfl (WL.op rfl (opW.moveI rfl ?_))
   refine WL.gT 26 rfl rfl rfl (WL.op rfl (opW.neq rfl rfl ?_))
   refine WL.op rfl (opW.pickT rfl rfl ?_)
   refine WL.nil ?_
   refine thenQ_n (hK9 _ _ ?_)
   refine WC.cond _ rfl (fun hc1 => ?_) (fun hc1 => ?_)
   ·
    have hr1 := hc1
    try simp only [sq1,sq2,sq3,sq4,sq5,sq6,sq7,sq8,sq9,sq0] at hc1
    refine WC.seq (fun K11 hK11 => ?_)
    refine WC.region ?_
    refine WL.op rfl (opW.loadV rfl (by first | exact hS.ldA (by repeat constructor) (by first | rfl | exact Enc.size_eq _) | exact hS.ld1 (by repeat constructor) rfl) ?_)
    refine WL.op0 (opW.storeE hS rfl rfl (by repeat constructor) (by first | rfl | exact Enc.size_eq _) ?_)
    intro w hS; replace hS := hS _ (by repeat constructor)
    refine WL.op rfl (opW.assignB rfl ?_)
    refine WL.nil ?_
    refine thenQ_n (hK11 _ _ ?_)
    refine WC.ret ?_
    refine thenQ_r ?_
    refine bodyQ_ret (.cell (by first | exact hS.ldA (by repeat constructor) (by first | rfl | exact Enc.size_eq _) | exact hS.ld1 (by repeat constructor) rfl) (.tmpB rfl .nil)) ?_
    have hL := long_some (hbb.trans (by simpa using hcs26))
    exact ⟨_, false, rfl, by rw [askF_ne h4 (by omega)]; rfl, fun h => (by cases h), hS.old⟩
   ·
    have hr1 := hc1
    try simp only [sq1,sq2,sq3,sq4,sq5,sq6,sq7,sq8,sq9,sq0] at hc1
    have hL := long_some (hbb.trans (by simpa using hcs26))
    rw [hX] at hL
    refine WC.skip ?_
    refine thenQ_n (hK8 _ _ ?_)
    refine WC.mid (fun f w => ∃ (sx : SlV) (l : List UInt8) (x : Ask), Fits [(2, .pointer (some ⟨b2, 0, none⟩)), (4, .pointer (some ⟨b12, 0, none⟩))] f ∧ St w0 [blkE b12 (Enc.enc (Cut.mk sx)) 174, blkE b2 (Enc.enc (x : Ask)) 161] w ∧ SlR w0 sx.v l ∧ (l.length = 32 → askF bs = some { x with owner := vecOf 32 l }) ∧ (l.length ≠ 32 → askF bs = some x)) ?_ ?_
    ·
     refine WC.seq (fun K12 hK12 => ?_)
     refine WC.region ?_
     refine WL.op rfl (opW.fieldAddrB rfl ?_)
     refine WL.op rfl (opW.loadV rfl (hS.ld1 (by repeat constructor) (Ask.at_tag _)) ?_)
     refine WL.nil ?_
     refine thenQ_n (hK12 _ _ ?_)
     refine WC.block ?_
     refine WC.mid (fun f w => ∃ (sx : SlV) (l : List UInt8) (c : Nat), Fits [(2, .pointer (some ⟨b2, 0, none⟩)), (4, .pointer (some ⟨b12, 0, none⟩))] f ∧ St w0 [blkE b12 (Enc.enc (Cut.mk sx)) 174, blkE b2 (Enc.enc (⟨(leN (bs.take 4)), c, 0, vz 32⟩ : Ask)) 161] w ∧ SlR w0 sx.v l ∧ 8 ≤ l.length ∧ (((leN (bs.take 4)) = 0 ∧ l = (bs.drop 4).drop 8 ∧ c = leN ((bs.drop 4).take 8) ∧ (bs.drop 4).length = 48) ∨ ((leN (bs.take 4)) = 8 ∧ l = (bs.drop 4) ∧ c = 0 ∧ (bs.drop 4).length = 8))) ?_ ?_
     ·
      refine WC.block ?_
      refine WC.seq (fun K13 hK13 => ?_)
      refine WC.block ?_
      refine WC.seq (fun K14 hK14 => ?_)
      refine WC.block ?_
      refine WC.seq (fun K15 hK15 => ?_)
      refine WC.seq (fun K16 hK16 => ?_)
      refine WC.seq (fun K17 hK17 => ?_)
      refine WC.region ?_
      refine WL.op rfl (opW.eql rfl rfl ?_)
      refine WL.op rfl (opW.assignB rfl ?_)
      refine WL.nil ?_
      refine thenQ_n (hK17 _ _ ?_)
      refine WC.cond _ rfl (fun hc2 => ?_) (fun hc2 => ?_)
      ·
       have hr2 := hc2
       try simp only [sq1,sq2,sq3,sq4,sq5,sq6,sq7,sq8,sq9,sq0] at hc2
       have hT2 : (leN (bs.take 4)) = 2 := by omega
       have hl8 : (bs.drop 4).length = 8 := by omega
       refine WC.exit ?_
       refine thenQ_e ?_
       refine thenQ_e ?_
       refine blockQ_hit ?_
       refine thenQ_n (hK14 _ _ ?_)
       refine WC.seq (fun K18 hK18 => ?_)
       refine WC.region ?_
       refine WL.op rfl (opW.moveV (v := .pointer (some ⟨b12, 0, none⟩)) rfl ?_)
       refine WL.op rfl (opW.call (cutnum_ok _ _ _ b12 s14 (bs.drop 4) 8 (hS.pick (e := blkE b12 (Enc.enc (Cut.mk s14)) 174) (by repeat constructor)) hs14 (by omega) (by omega) (by omega)) rfl ?_)
       rintro _ w ⟨s45, rfl, hs45, hS⟩
       refine WL.op rfl (opW.fieldAddrB rfl ?_)
       refine WL.op0 (opW.storeF (v := .int .u64 ((leN ((bs.drop 4).take 8) : Nat) : Int)) (sz := 1) (cs' := Enc.enc (⟨(leN (bs.take 4)), leN ((bs.drop 4).take 8), 0, vz 32⟩ : Ask)) hS rfl rfl (by repeat constructor) rfl (by rw [Enc.size_eq]; decide) (one_int _ _) (Ask.set_coins (⟨(leN (bs.take 4)), 0, 0, vz 32⟩ : Ask) (leN ((bs.drop 4).take 8))) ?_)
       intro w hS; replace hS := hS _ (by repeat constructor)
       refine WL.nil ?_
       refine thenQ_n (hK18 _ _ ?_)
       refine WC.exit ?_
       refine blockQ_miss rfl ?_
       refine thenQ_e ?_
       refine blockQ_miss rfl ?_
       refine thenQ_e ?_
       refine blockQ_hit ?_
       refine thenQ_n ?_
       first
        | exact ⟨s45, _, ⟨(leN (bs.take 4)), leN ((bs.drop 4).take 8), 0, vz 32⟩, ⟨rfl, rfl, trivial⟩, hS.sub (by repeat with_reducible first | exact su1 _ | exact su2 _ | refine su3 ?_ | refine su4 ?_), hs45, fun h => absurd h (by simp; omega), fun _ => by rw [askF2 h4 hT2 hl8, hT2]⟩
        | exact ⟨s51, _, ⟨(leN (bs.take 4)), c, leN (l.take 8), vz 32⟩, ⟨rfl, rfl, trivial⟩, hS.sub (by repeat with_reducible first | exact su1 _ | exact su2 _ | refine su3 ?_ | refine su4 ?_), hs51, fun h => (by rcases hcase with ⟨h0, rfl, rfl, hll⟩ | ⟨h0, rfl, rfl, hll⟩; rw [askF0 h4 h0 hll, h0]; simp [List.drop_drop]; simp at h; omega), fun h => (by rcases hcase with ⟨h0, rfl, rfl, hll⟩ | ⟨h0, rfl, rfl, hll⟩; exact absurd (by simp; omega) h; rw [askF8 h4 h0 hll, h0])⟩
        | exact ⟨s14, _, ⟨(leN (bs.take 4)), 0, 0, vz 32⟩, ⟨rfl, rfl, trivial⟩, hS.sub (by repeat with_reducible first | exact su1 _ | exact su2 _ | refine su3 ?_ | refine su4 ?_), hs14, fun _ => by rw [askF1 h4 hT1 hl32, hT1], fun h => absurd hl32 h⟩
      ·
       have hr2 := hc2
       try simp only [sq1,sq2,sq3,sq4,sq5,sq6,sq7,sq8,sq9,sq0] at hc2
       refine WC.skip ?_
       refine thenQ_n (hK16 _ _ ?_)
       refine WC.seq (fun K19 hK19 => ?_)
       refine WC.seq (fun K20 hK20 => ?_)
       refine WC.region ?_
       refine WL.op rfl (opW.eql rfl rfl ?_)
       refine WL.op rfl (opW.assignB rfl ?_)
       refine WL.nil ?_
       refine thenQ_n (hK20 _ _ ?_)
       refine WC.cond _ rfl (fun hc3 => ?_) (fun hc3 => ?_)
       ·
        have hr3 := hc3
        try simp only [sq1,sq2,sq3,sq4,sq5,sq6,sq7,sq8,sq9,sq0] at hc3
        have hT0 : (leN (bs.take 4)) = 0 := by omega
        have hl48 : (bs.drop 4).length = 48 := by omega
        refine WC.exit ?_
        refine thenQ_e ?_
        refine thenQ_e ?_
        refine blockQ_miss rfl ?_
        refine thenQ_e ?_
        refine blockQ_hit ?_
        refine thenQ_n (hK13 _ _ ?_)
        refine WC.region ?_
        refine WL.op rfl (opW.moveV (v := .pointer (some ⟨b12, 0, none⟩)) rfl ?_)
        refine WL.op rfl (opW.call (cutnum_ok _ _ _ b12 s14 (bs.drop 4) 8 (hS.pick (e := blkE b12 (Enc.enc (Cut.mk s14)) 174) (by repeat constructor)) hs14 (by omega) (by omega) (by omega)) rfl ?_)
        rintro _ w ⟨s48, rfl, hs48, hS⟩
        refine WL.op rfl (opW.fieldAddrB rfl ?_)
        refine WL.op0 (opW.storeF (v := .int .u64 ((leN ((bs.drop 4).take 8) : Nat) : Int)) (sz := 1) (cs' := Enc.enc (⟨(leN (bs.take 4)), leN ((bs.drop 4).take 8), 0, vz 32⟩ : Ask)) hS rfl rfl (by repeat constructor) rfl (by rw [Enc.size_eq]; decide) (one_int _ _) (Ask.set_coins (⟨(leN (bs.take 4)), 0, 0, vz 32⟩ : Ask) (leN ((bs.drop 4).take 8))) ?_)
        intro w hS; replace hS := hS _ (by repeat constructor)
        refine WL.nil ?_
        refine blockQ_n ?_
        refine thenQ_n ?_
        first | exact ⟨s48, _, _, ⟨rfl, rfl, trivial⟩, hS.sub (by repeat with_reducible first | exact su1 _ | exact su2 _ | refine su3 ?_ | refine su4 ?_), hs48, by simp; omega, .inl ⟨hT0, rfl, rfl, hl48⟩⟩ | exact ⟨s14, _, _, ⟨rfl, rfl, trivial⟩, hS.sub (by repeat with_reducible first | exact su1 _ | exact su2 _ | refine su3 ?_ | refine su4 ?_), hs14, by omega, .inr ⟨hT8, rfl, rfl, hl8⟩⟩
       ·
        have hr3 := hc3
        try simp only [sq1,sq2,sq3,sq4,sq5,sq6,sq7,sq8,sq9,sq0] at hc3
        refine WC.skip ?_
        refine thenQ_n (hK19 _ _ ?_)
        refine WC.seq (fun K21 hK21 => ?_)
        refine WC.region ?_
        refine WL.op rfl (opW.eql rfl rfl ?_)
        refine WL.op rfl (opW.assignB rfl ?_)
        refine WL.nil ?_
        refine thenQ_n (hK21 _ _ ?_)
        refine WC.cond _ rfl (fun hc4 => ?_) (fun hc4 => ?_)
        ·
         have hr4 := hc4
         try simp only [sq1,sq2,sq3,sq4,sq5,sq6,sq7,sq8,sq9,sq0] at hc4
         have hT8 : (leN (bs.take 4)) = 8 := by omega
         have hl8 : (bs.drop 4).length = 8 := by omega
         refine WC.exit ?_
         refine thenQ_e ?_
         refine blockQ_miss rfl ?_
         refine thenQ_e ?_
         refine blockQ_miss rfl ?_
         refine thenQ_e ?_
         refine blockQ_hit ?_
         refine thenQ_n ?_
         first | exact ⟨s48, _, _, ⟨rfl, rfl, trivial⟩, hS.sub (by repeat with_reducible first | exact su1 _ | exact su2 _ | refine su3 ?_ | refine su4 ?_), hs48, by simp; omega, .inl ⟨hT0, rfl, rfl, hl48⟩⟩ | exact ⟨s14, _, _, ⟨rfl, rfl, trivial⟩, hS.sub (by repeat with_reducible first | exact su1 _ | exact su2 _ | refine su3 ?_ | refine su4 ?_), hs14, by omega, .inr ⟨hT8, rfl, rfl, hl8⟩⟩
        ·
         have hr4 := hc4
         try simp only [sq1,sq2,sq3,sq4,sq5,sq6,sq7,sq8,sq9,sq0] at hc4
         have hT1 : (leN (bs.take 4)) = 1 := by omega
         have hl32 : (bs.drop 4).length = 32 := by omega
         refine WC.skip ?_
         refine thenQ_n (hK15 _ _ ?_)
         refine WC.exit ?_
         refine blockQ_miss rfl ?_
         refine thenQ_e ?_
         refine blockQ_miss rfl ?_
         refine thenQ_e ?_
         refine blockQ_miss rfl ?_
         refine thenQ_e ?_
         refine blockQ_hit ?_
         refine thenQ_n ?_
         first
          | exact ⟨s45, _, ⟨(leN (bs.take 4)), leN ((bs.drop 4).take 8), 0, vz 32⟩, ⟨rfl, rfl, trivial⟩, hS.sub (by repeat with_reducible first | exact su1 _ | exact su2 _ | refine su3 ?_ | refine su4 ?_), hs45, fun h => absurd h (by simp; omega), fun _ => by rw [askF2 h4 hT2 hl8, hT2]⟩
          | exact ⟨s51, _, ⟨(leN (bs.take 4)), c, leN (l.take 8), vz 32⟩, ⟨rfl, rfl, trivial⟩, hS.sub (by repeat with_reducible first | exact su1 _ | exact su2 _ | refine su3 ?_ | refine su4 ?_), hs51, fun h => (by rcases hcase with ⟨h0, rfl, rfl, hll⟩ | ⟨h0, rfl, rfl, hll⟩; rw [askF0 h4 h0 hll, h0]; simp [List.drop_drop]; simp at h; omega), fun h => (by rcases hcase with ⟨h0, rfl, rfl, hll⟩ | ⟨h0, rfl, rfl, hll⟩; exact absurd (by simp; omega) h; rw [askF8 h4 h0 hll, h0])⟩
          | exact ⟨s14, _, ⟨(leN (bs.take 4)), 0, 0, vz 32⟩, ⟨rfl, rfl, trivial⟩, hS.sub (by repeat with_reducible first | exact su1 _ | exact su2 _ | refine su3 ?_ | refine su4 ?_), hs14, fun _ => by rw [askF1 h4 hT1 hl32, hT1], fun h => absurd hl32 h⟩
     ·
      rintro f w ⟨sx, l, c, hfit, hS, hsx, h8l, hcase⟩
      refine WC.fits _ hfit (fun g => ?_)
      clear hfit
      refine WC.seq (fun K22 hK22 => ?_)
      refine WC.region ?_
      refine WL.op rfl (opW.moveV (v := .pointer (some ⟨b12, 0, none⟩)) rfl ?_)
      refine WL.op rfl (opW.call (cutnum_ok _ _ _ b12 sx l 8 (hS.pick (e := blkE b12 (Enc.enc (Cut.mk sx)) 174) (by repeat constructor)) hsx (by omega) (by omega) (by omega)) rfl ?_)
      rintro _ w ⟨s51, rfl, hs51, hS⟩
      refine WL.op rfl (opW.fieldAddrB rfl ?_)
      refine WL.op0 (opW.storeF (v := .int .u64 ((leN (l.take 8) : Nat) : Int)) (sz := 1) (cs' := Enc.enc (⟨(leN (bs.take 4)), c, leN (l.take 8), vz 32⟩ : Ask)) hS rfl rfl (by repeat constructor) rfl (by rw [Enc.size_eq]; decide) (one_int _ _) (Ask.set_space (⟨(leN (bs.take 4)), c, 0, vz 32⟩ : Ask) (leN (l.take 8))) ?_)
      intro w hS; replace hS := hS _ (by repeat constructor)
      refine WL.nil ?_
      refine thenQ_n (hK22 _ _ ?_)
      refine WC.exit ?_
      refine blockQ_hit ?_
      refine thenQ_n ?_
      first
       | exact ⟨s45, _, ⟨(leN (bs.take 4)), leN ((bs.drop 4).take 8), 0, vz 32⟩, ⟨rfl, rfl, trivial⟩, hS.sub (by repeat with_reducible first | exact su1 _ | exact su2 _ | refine su3 ?_ | refine su4 ?_), hs45, fun h => absurd h (by simp; omega), fun _ => by rw [askF2 h4 hT2 hl8, hT2]⟩
       | exact ⟨s51, _, ⟨(leN (bs.take 4)), c, leN (l.take 8), vz 32⟩, ⟨rfl, rfl, trivial⟩, hS.sub (by repeat with_reducible first | exact su1 _ | exact su2 _ | refine su3 ?_ | refine su4 ?_), hs51, fun h => (by rcases hcase with ⟨h0, rfl, rfl, hll⟩ | ⟨h0, rfl, rfl, hll⟩; rw [askF0 h4 h0 hll, h0]; simp [List.drop_drop]; simp at h; omega), fun h => (by rcases hcase with ⟨h0, rfl, rfl, hll⟩ | ⟨h0, rfl, rfl, hll⟩; exact absurd (by simp; omega) h; rw [askF8 h4 h0 hll, h0])⟩
       | exact ⟨s14, _, ⟨(leN (bs.take 4)), 0, 0, vz 32⟩, ⟨rfl, rfl, trivial⟩, hS.sub (by repeat with_reducible first | exact su1 _ | exact su2 _ | refine su3 ?_ | refine su4 ?_), hs14, fun _ => by rw [askF1 h4 hT1 hl32, hT1], fun h => absurd hl32 h⟩
    ·
     rintro f w ⟨sx, l, x, hfit, hS, hsx, hx1, hx2⟩
     refine WC.fits _ hfit (fun g => ?_)
     clear hfit
     refine WC.seq (fun K23 hK23 => ?_)
     refine WC.seq (fun K24 hK24 => ?_)
     refine WC.region ?_
     refine WL.op rfl (opW.moveV (v := .pointer (some ⟨b12, 0, none⟩)) rfl ?_)
     refine WL.op rfl (opW.nilCheckB rfl ?_)
     refine WL.op rfl (opW.fieldAddrB rfl ?_)
     refine WL.op rfl (opW.loadV rfl (hS.ld1 (by repeat constructor) (Cut.at_b _)) ?_)
     refine WL.op rfl (opW.lenV rfl ((hsx.bel hS.old)) ?_)
     refine WL.op rfl (opW.eql rfl rfl ?_)
     refine WL.nil ?_
     refine thenQ_n (hK24 _ _ ?_)
     refine WC.cond _ rfl (fun hc5 => ?_) (fun hc5 => ?_)
     ·
      have hr5 := hc5
      try simp only [sq1,sq2,sq3,sq4,sq5,sq6,sq7,sq8,sq9,sq0] at hc5
      have hl32 : l.length = 32 := by omega
      refine WC.region ?_
      refine WL.op rfl (opW.moveV (v := .pointer (some ⟨b12, 0, none⟩)) rfl ?_)
      refine WL.op rfl (opW.nilCheckB rfl ?_)
      refine WL.op rfl (opW.fieldAddrB rfl ?_)
      refine WL.op rfl (opW.loadV rfl (hS.ld1 (by repeat constructor) (Cut.at_b _)) ?_)
      refine WL.op rfl (opW.arrAt (n := 32) (xs := l) rfl (hsx.bel hS.old) hl32 (by omega) ?_)
      refine WL.op rfl (opW.loadV rfl (((hsx.bel hS.old).key (n := 31) hl32).ldA (Enc.size_eq _)) ?_)
      refine WL.op rfl (opW.fieldAddrB rfl ?_)
      refine WL.op0 (opW.storeF (v := .agg (Enc.enc (vecOf 32 l))) (sz := 32) (cs' := Enc.enc { x with owner := vecOf 32 l }) hS rfl rfl (by repeat constructor) (Enc.size_eq (vecOf 32 l)) (by rw [Enc.size_eq]; decide) (Enc.one (vecOf 32 l)) (Ask.set_owner x (vecOf 32 l)) ?_)
      intro w hS; replace hS := hS _ (by repeat constructor)
      refine WL.nil ?_
      refine thenQ_n (hK23 _ _ ?_)
      refine WC.seq (fun K25 hK25 => ?_)
      refine WC.region ?_
      refine WL.op rfl (opW.loadV rfl (by first | exact hS.ldA (by repeat constructor) (by first | rfl | exact Enc.size_eq _) | exact hS.ld1 (by repeat constructor) rfl) ?_)
      refine WL.op0 (opW.storeE hS rfl rfl (by repeat constructor) (by first | rfl | exact Enc.size_eq _) ?_)
      intro w hS; replace hS := hS _ (by repeat constructor)
      refine WL.op rfl (opW.assignB rfl ?_)
      refine WL.nil ?_
      refine thenQ_n (hK25 _ _ ?_)
      refine WC.ret ?_
      refine bodyQ_ret (.cell (by first | exact hS.ldA (by repeat constructor) (by first | rfl | exact Enc.size_eq _) | exact hS.ld1 (by repeat constructor) rfl) (.tmpB rfl .nil)) ?_
      exact ⟨_, true, rfl, by rw [hx1 hl32]; rfl, fun _ => hx1 hl32, hS.old⟩
     ·
      have hr5 := hc5
      try simp only [sq1,sq2,sq3,sq4,sq5,sq6,sq7,sq8,sq9,sq0] at hc5
      have hl32 : l.length ≠ 32 := by omega
      refine WC.skip ?_
      refine thenQ_n (hK23 _ _ ?_)
      refine WC.seq (fun K26 hK26 => ?_)
      refine WC.region ?_
      refine WL.op rfl (opW.loadV rfl (by first | exact hS.ldA (by repeat constructor) (by first | rfl | exact Enc.size_eq _) | exact hS.ld1 (by repeat constructor) rfl) ?_)
      refine WL.op0 (opW.storeE hS rfl rfl (by repeat constructor) (by first | rfl | exact Enc.size_eq _) ?_)
      intro w hS; replace hS := hS _ (by repeat constructor)
      refine WL.op rfl (opW.assignB rfl ?_)
      refine WL.nil ?_
      refine thenQ_n (hK26 _ _ ?_)
      refine WC.ret ?_
      refine bodyQ_ret (.cell (by first | exact hS.ldA (by repeat constructor) (by first | rfl | exact Enc.size_eq _) | exact hS.ld1 (by repeat constructor) rfl) (.tmpB rfl .nil)) ?_
      exact ⟨_, true, rfl, by rw [hx2 hl32]; rfl, fun _ => hx2 hl32, hS.old⟩

/-- what is wrong with who stands at a place -/
def roleErr (t : Nat) (r : List Role) (i : Nat) (c : UInt8) : Int :=
 let ρ := r.getD c.toNat ⟨vz 32, false, false⟩
 if (!ρ.signs && !(decide ((t : Int) = 2) && decide ((0 : Int) < (i : Int)))) = true then 14 else if (!ρ.writes) = true then 15 else 0
def roleErrs (t : Nat) (r : List Role) : List UInt8 → Nat → Int
 | [], _ => 0
 | c :: l, i => if roleErr t r i c ≠ 0 then roleErr t r i c else roleErrs t r l (i + 1)
def lacks (n : Nat) (ats : List UInt8) : Bool := ats.any fun c => decide ((n : Int) ≤ (c.toNat : Int))
def takF (t : Nat) (r : List Role) (ats : List UInt8) : Int :=
 if (decide ((ats.length : Int) < (need t : Int)) || lacks r.length ats) = true then 8 else roleErrs t r (ats.take (need t)) 0
theorem roleErrs_step {t : Nat} {r : List Role} {l : List UInt8} {k : Nat} (hk : k < l.length) : roleErrs t r (l.drop k) k = if roleErr t r k l[k] ≠ 0 then roleErr t r k l[k] else roleErrs t r (l.drop (k + 1)) (k + 1) := by
 rw [List.drop_eq_getElem_cons hk]; rfl
theorem roleErr_of {t : Nat} {r : List Role} {i : Nat} {c : UInt8} (h : c.toNat < r.length) : roleErr t r i c = if (!r[c.toNat].signs && !(decide ((t : Int) = 2) && decide ((0 : Int) < (i : Int)))) = true then 14 else if (!r[c.toNat].writes) = true then 15 else 0 := by
 unfold roleErr
 rw [show r.getD c.toNat ⟨vz 32, false, false⟩ = r[c.toNat] from by simp [List.getD_eq_getElem?_getD, h]]
theorem roleErrs_hit {t : Nat} {r : List Role} {l : List UInt8} {k : Nat} {e : Int} (hk : k < l.length) (h : roleErr t r k l[k] = e) (he : e ≠ 0) : roleErrs t r (l.drop k) k = e := by
 rw [roleErrs_step hk, h, if_pos he]
theorem roleErrs_go {t : Nat} {r : List Role} {l : List UInt8} {k : Nat} (hk : k < l.length) (h : roleErr t r k l[k] = 0) : roleErrs t r (l.drop k) k = roleErrs t r (l.drop (k + 1)) (k + 1) := by
 rw [roleErrs_step hk, h, if_neg (by decide)]
theorem roleErr_s {t : Nat} {r : List Role} {i : Nat} {c : UInt8} (h : c.toNat < r.length) (hs : (!r[c.toNat].signs && !(decide ((t : Int) = 2) && decide ((0 : Int) < (i : Int)))) = true) : roleErr t r i c = 14 := by
 rw [roleErr_of h, if_pos hs]
theorem roleErr_w {t : Nat} {r : List Role} {i : Nat} {c : UInt8} (h : c.toNat < r.length) (hs : (!r[c.toNat].signs && !(decide ((t : Int) = 2) && decide ((0 : Int) < (i : Int)))) = false) (hw : (!r[c.toNat].writes) = true) : roleErr t r i c = 15 := by
 rw [roleErr_of h, if_neg (by rw [hs]; decide), if_pos hw]
theorem roleErr_0 {t : Nat} {r : List Role} {i : Nat} {c : UInt8} (h : c.toNat < r.length) (hs : (!r[c.toNat].signs && !(decide ((t : Int) = 2) && decide ((0 : Int) < (i : Int)))) = false) (hw : (!r[c.toNat].writes) = false) : roleErr t r i c = 0 := by
 rw [roleErr_of h, if_neg (by rw [hs]; decide), if_neg (by rw [hw]; decide)]
theorem lacks_no {n : Nat} {ats : List UInt8} (h : lacks n ats = false) {c : UInt8} (hc : c ∈ ats) : c.toNat < n := by
 unfold lacks at h
 have := List.any_eq_false.1 h c hc
 simp only [decide_eq_true_eq] at this
 omega
theorem need_12 (t : Nat) : 1 ≤ need t ∧ need t ≤ 2 := by unfold need; split <;> omega

theorem need_ok (w0 : World) (x : Ask) : Ret Tryd.prog 66 #[.agg (Enc.enc x)] w0 (fun u w' => u = .int .i64 (need x.tag : Int) ∧ Bel w0 w') := by
 refine Ret.enter (args := [.agg (Enc.enc x)]) Tryd.func66 rfl Tryd.ntmps66 Tryd.results66 rfl ?_
 have hS := St.start w0
 refine WC.seq (fun K1 hK1 => ?_)
 refine WC.region ?_
 refine WL.op rfl (opW.boxA hS rfl ?_)
 intro b1 w _ hS
 refine WL.op rfl (opW.assignI rfl ?_)
 refine WL.nil ?_
 refine thenQ_n (hK1 _ _ ?_)
 refine WC.seq (fun K2 hK2 => ?_)
 refine WC.seq (fun K3 hK3 => ?_)
 refine WC.region ?_
 refine WL.op rfl (opW.fieldAddrB rfl ?_)
 refine WL.op rfl (opW.loadV rfl (hS.ld1 (by repeat constructor) (Ask.at_tag _)) ?_)
 refine WL.op rfl (opW.eql rfl rfl ?_)
 refine WL.op rfl (opW.moveB rfl ?_)
 refine WL.gd _ 6 _ rfl rfl rfl rfl (fun hg7 => opW.fieldAddrB rfl ⟨rfl, Bel.refl _⟩) (fun w hw => ?_)
 replace hS := hS.bel hw
 refine WL.gd _ 6 _ rfl rfl rfl rfl (fun hg8 => opW.loadV (by first | exact gv_of rfl hg8 | rfl) (hS.ld1 (by repeat constructor) (Ask.at_tag _)) ⟨rfl, Bel.refl _⟩) (fun w hw => ?_)
 replace hS := hS.bel hw
 refine WL.gd _ 6 _ rfl rfl rfl rfl (fun hg9 => opW.eql (by first | exact gv_of rfl hg9 | rfl) rfl ⟨rfl, Bel.refl _⟩) (fun w hw => ?_)
 replace hS := hS.bel hw
 refine WL.op rfl (opW.pickOr rfl rfl (by first | rfl) ?_)
 refine WL.nil ?_
 refine thenQ_n (hK3 _ _ ?_)
 refine WC.cond _ rfl (fun hc0 => ?_) (fun hc0 => ?_)
 ·
  have hr0 := hc0
  try simp only [sq1,sq2,sq3,sq4,sq5,sq6,sq7,sq8,sq9,sq0] at hc0
  refine WC.seq (fun K4 hK4 => ?_)
  refine WC.region ?_
  refine WL.op rfl (opW.assignI rfl ?_)
  refine WL.nil ?_
  refine thenQ_n (hK4 _ _ ?_)
  refine WC.ret ?_
  refine thenQ_r ?_
  refine bodyQ_ret (.tmpI rfl .nil) ?_
  refine ⟨congrArg (Value.int .i64) ?_, hS.old⟩
  unfold need
  simp only [Bool.or_eq_true, decide_eq_true_eq] at hr0
  rw [if_pos (by omega)]; rfl
 ·
  have hr0 := hc0
  try simp only [sq1,sq2,sq3,sq4,sq5,sq6,sq7,sq8,sq9,sq0] at hc0
  refine WC.skip ?_
  refine thenQ_n (hK2 _ _ ?_)
  refine WC.seq (fun K5 hK5 => ?_)
  refine WC.region ?_
  refine WL.op rfl (opW.assignI rfl ?_)
  refine WL.nil ?_
  refine thenQ_n (hK5 _ _ ?_)
  refine WC.ret ?_
  refine bodyQ_ret (.tmpI rfl .nil) ?_
  refine ⟨congrArg (Value.int .i64) ?_, hS.old⟩
  unfold need
  simp only [Bool.or_eq_false_iff, decide_eq_false_iff_not] at hr0
  rw [if_neg (by omega)]; rfl

theorem beyond_ok (w0 : World) (b : Nat) (rv : Value) (r : List Role) (c : UInt8) (hp : Pt w0 (.pointer (some ⟨b, 0, none⟩)) #[rv]) (hr : SlR w0 rv r) : Ret Tryd.prog 69 #[.int .u8 (c.toNat : Int), .pointer (some ⟨b, 0, none⟩)] w0 (fun u w' => u = .bool (decide ((r.length : Int) ≤ (c.toNat : Int))) ∧ Bel w0 w') := by
 refine Ret.enter (args := [.int .u8 (c.toNat : Int), .pointer (some ⟨b, 0, none⟩)]) Tryd.func69 rfl Tryd.ntmps69 Tryd.results69 rfl ?_
 have hS := St.start w0
 refine WC.seq (fun K1 hK1 => ?_)
 refine WC.region ?_
 refine WL.op rfl (opW.assignB rfl ?_)
 refine WL.nil ?_
 refine thenQ_n (hK1 _ _ ?_)
 refine WC.seq (fun K2 hK2 => ?_)
 refine WC.region ?_
 refine WL.op rfl (opW.moveI rfl ?_)
 refine WL.op rfl (opW.conv rfl (wrap_i64 (by have := u8_lt c; omega)) ?_)
 refine WL.op rfl (opW.loadV rfl ((hp.bel hS.old).ld rfl) ?_)
 refine WL.op rfl (opW.lenV rfl ((hr.bel hS.old)) ?_)
 refine WL.op rfl (opW.geq rfl rfl ?_)
 refine WL.op rfl (opW.assignB rfl ?_)
 refine WL.nil ?_
 refine thenQ_n (hK2 _ _ ?_)
 refine WC.ret ?_
 refine bodyQ_ret (.tmpB rfl .nil) ?_
 exact ⟨rfl, hS.old⟩

theorem index_ok (w0 : World) (v fv : Value) (xs : List UInt8) (p : UInt8 → Bool) (hx : SlR w0 v xs) (hf : ∀ w, Bel w0 w → ∀ c : UInt8, FnV Tryd.prog fv [.int .u8 (c.toNat : Int)] w (fun u w' => u = .bool (p c) ∧ Bel w w')) : Ret Tryd.prog 76 #[v, fv] w0 (fun u w' => ∃ n : Int, u = .int .i64 n ∧ decide (0 ≤ n) = xs.any p ∧ Bel w0 w') := by
 refine Ret.enter (args := [v, fv]) Tryd.func76 rfl Tryd.ntmps76 Tryd.results76 rfl ?_
 have hS := St.start w0
 refine WC.seq (fun K1 hK1 => ?_)
 refine WC.region ?_
 refine WL.op rfl (opW.assignI rfl ?_)
 refine WL.nil ?_
 refine thenQ_n (hK1 _ _ ?_)
 refine WC.seq (fun K2 hK2 => ?_)
 refine WC.seq (fun K3 hK3 => ?_)
 refine WC.region ?_
 refine WL.op rfl (opW.moveV (v := v) rfl ?_)
 refine WL.op rfl (opW.lenV rfl ((hx.bel hS.old)) ?_)
 refine WL.op rfl (opW.moveI rfl ?_)
 refine WL.nil ?_
 refine thenQ_n (hK3 _ _ ?_)
 refine WC.block ?_
 refine WC.loop (fun q f w => ∃ k : Nat, Fits [(0, v), (1, fv), (7, .int .i64 (xs.length : Int)), (8, .int .i64 (k : Int))] f ∧ St w0 [] w ∧ (∀ j (h : j < xs.length), j < k → p xs[j] = false) ∧ k ≤ xs.length ∧ q = xs.length - k) (xs.length) ?_ ?_
 ·
  exact ⟨0, ⟨rfl, rfl, rfl, rfl, trivial⟩, hS, fun j _ h => absurd h (by omega), Nat.zero_le _, rfl⟩
 ·
  rintro q f w ⟨k, hfit, hS, hno, hk0, hm⟩
  refine WC.fits _ hfit (fun g => ?_)
  clear hfit
  refine WC.seq (fun K4 hK4 => ?_)
  refine WC.region ?_
  refine WL.op rfl (opW.lss rfl rfl ?_)
  refine WL.nil ?_
  refine thenQ_n (hK4 _ _ ?_)
  refine WC.seq (fun K5 hK5 => ?_)
  refine WC.cond _ rfl (fun hc0 => ?_) (fun hc0 => ?_)
  ·
   have hr0 := hc0
   try simp only [sq1,sq2,sq3,sq4,sq5,sq6,sq7,sq8,sq9,sq0] at hc0
   have hkl : k < xs.length := by omega
   have hle := hx.le
   simp only [maxLen] at hle
   refine WC.skip ?_
   refine thenQ_n (hK5 _ _ ?_)
   refine WC.seq (fun K6 hK6 => ?_)
   refine WC.block ?_
   refine WC.seq (fun K7 hK7 => ?_)
   refine WC.region ?_
   refine WL.op rfl (opW.moveI rfl ?_)
   refine WL.op rfl (opW.assignI rfl ?_)
   refine WL.nil ?_
   refine thenQ_n (hK7 _ _ ?_)
   refine WC.seq (fun K8 hK8 => ?_)
   refine WC.region ?_
   refine WL.op rfl (opW.moveV (v := fv) rfl ?_)
   refine WL.op rfl (opW.moveV (v := v) rfl ?_)
   refine WL.op rfl (opW.moveI rfl ?_)
   refine WL.op rfl (opW.idxV rfl ((hx.bel hS.old)) rfl (by omega) ?_)
   refine WL.op rfl (opW.loadV rfl (((hx.bel hS.old).isPt hkl).ld rfl) ?_)
   refine WL.op rfl (opW.callV rfl (hf _ hS.old xs[k]) rfl ?_)
   rintro _ w ⟨rfl, hw⟩; replace hS := hS.bel hw
   refine WL.nil ?_
   refine thenQ_n (hK8 _ _ ?_)
   refine WC.cond _ rfl (fun hc1 => ?_) (fun hc1 => ?_)
   ·
    have hr1 := hc1
    try simp only [sq1,sq2,sq3,sq4,sq5,sq6,sq7,sq8,sq9,sq0] at hc1
    refine WC.seq (fun K9 hK9 => ?_)
    refine WC.region ?_
    refine WL.op rfl (opW.moveI rfl ?_)
    refine WL.op rfl (opW.assignI rfl ?_)
    refine WL.nil ?_
    refine thenQ_n (hK9 _ _ ?_)
    refine WC.ret ?_
    refine blockQ_r ?_
    refine thenQ_r ?_
    refine thenQ_r ?_
    refine blockQ_r ?_
    refine thenQ_r ?_
    refine bodyQ_ret (.tmpI rfl .nil) ?_
    exact ⟨_, rfl, by rw [List.any_eq_true.2 ⟨xs[k], List.getElem_mem hkl, hr1⟩]; exact decide_eq_true (by omega), hS.old⟩
   ·
    have hr1 := hc1
    try simp only [sq1,sq2,sq3,sq4,sq5,sq6,sq7,sq8,sq9,sq0] at hc1
    refine WC.skip ?_
    refine blockQ_n ?_
    refine thenQ_n (hK6 _ _ ?_)
    refine WC.region ?_
    refine WL.op rfl (opW.add rfl rfl (wrap_i64 (by omega)) ?_)
    refine WL.op rfl (opW.moveI rfl ?_)
    refine WL.nil ?_
    refine thenQ_n ?_
    exact ⟨xs.length - (k + 1), by omega, k + 1, ⟨rfl, rfl, rfl, congrArg (Value.int .i64) (by omega), trivial⟩, hS, fun j h1 h2 => (by rcases Nat.lt_or_ge j k with h | h; exact hno j h1 h; obtain rfl : j = k := (by omega); exact hr1), by omega, rfl⟩
  ·
   have hr0 := hc0
   try simp only [sq1,sq2,sq3,sq4,sq5,sq6,sq7,sq8,sq9,sq0] at hc0
   refine WC.exit ?_
   refine thenQ_e ?_
   refine thenQ_e ?_
   refine blockQ_hit ?_
   refine thenQ_n (hK2 _ _ ?_)
   refine WC.seq (fun K10 hK10 => ?_)
   refine WC.region ?_
   refine WL.op rfl (opW.assignI rfl ?_)
   refine WL.nil ?_
   refine thenQ_n (hK10 _ _ ?_)
   refine WC.ret ?_
   refine bodyQ_ret (.tmpI rfl .nil) ?_
   refine ⟨_, rfl, ?_, hS.old⟩
   rw [List.any_eq_false.2 (fun c hc => by obtain ⟨j, hj, rfl⟩ := List.getElem_of_mem hc; rw [hno j hj (by omega)]; decide)]
   rfl

theorem contains_ok (w0 : World) (v fv : Value) (xs : List UInt8) (p : UInt8 → Bool) (hx : SlR w0 v xs) (hf : ∀ w, Bel w0 w → ∀ c : UInt8, FnV Tryd.prog fv [.int .u8 (c.toNat : Int)] w (fun u w' => u = .bool (p c) ∧ Bel w w')) : Ret Tryd.prog 70 #[v, fv] w0 (fun u w' => u = .bool (xs.any p) ∧ Bel w0 w') := by
 refine Ret.enter (args := [v, fv]) Tryd.func70 rfl Tryd.ntmps70 Tryd.results70 rfl ?_
 have hS := St.start w0
 refine WC.seq (fun K1 hK1 => ?_)
 refine WC.region ?_
 refine WL.op rfl (opW.assignB rfl ?_)
 refine WL.nil ?_
 refine thenQ_n (hK1 _ _ ?_)
 refine WC.seq (fun K2 hK2 => ?_)
 refine WC.region ?_
 refine WL.op rfl (opW.moveV (v := v) rfl ?_)
 refine WL.op rfl (opW.moveV (v := fv) rfl ?_)
 refine WL.op rfl (opW.call (index_ok _ v fv xs p (hx.bel hS.old) (fun w h c => hf w (hS.old.trans h) c)) rfl ?_)
 rintro _ w ⟨n, rfl, hn, hw⟩; replace hS := hS.bel hw
 refine WL.op rfl (opW.geq rfl rfl ?_)
 refine WL.op rfl (opW.assignB rfl ?_)
 refine WL.nil ?_
 refine thenQ_n (hK2 _ _ ?_)
 refine WC.ret ?_
 refine bodyQ_ret (.tmpB rfl .nil) ?_
 exact ⟨congrArg Value.bool hn, hS.old⟩

theorem taken_ok (w0 : World) (x : Ask) (rv va : Value) (r : List Role) (ats : List UInt8) (hr : SlR w0 rv r) (ha : SlR w0 va ats) : Ret Tryd.prog 65 #[.agg (Enc.enc x), rv, va] w0 (fun u w' => u = .int .i64 (takF x.tag r ats) ∧ Bel w0 w') := by
 refine Ret.enter (args := [.agg (Enc.enc x), rv, va]) Tryd.func65 rfl Tryd.ntmps65 Tryd.results65 rfl ?_
 have hS := St.start w0
 obtain ⟨sr, rfl⟩ := hr.asV
 refine WC.seq (fun K1 hK1 => ?_)
 refine WC.region ?_
 refine WL.op rfl (opW.boxA hS rfl ?_)
 intro b3 w _ hS
 refine WL.op rfl (opW.box1 hS (v := sr.v) rfl rfl ?_)
 intro b4 w _ hS
 refine WL.op rfl (opW.assignI rfl ?_)
 refine WL.nil ?_
 refine thenQ_n (hK1 _ _ ?_)
 refine WC.seq (fun K2 hK2 => ?_)
 refine WC.region ?_
 refine WL.op rfl (opW.makeFn (vs := []) (cs := [.pointer (some ⟨b4, 0, none⟩)]) rfl rfl ?_)
 refine WL.op rfl (opW.assignV (v := (.func (.func 69) #[] #[.pointer (some ⟨b4, 0, none⟩)])) rfl ?_)
 refine WL.nil ?_
 refine thenQ_n (hK2 _ _ ?_)
 refine WC.seq (fun K3 hK3 => ?_)
 refine WC.seq (fun K4 hK4 => ?_)
 refine WC.region ?_
 refine WL.op rfl (opW.moveV (v := va) rfl ?_)
 refine WL.op rfl (opW.lenV rfl ((ha.bel hS.old)) ?_)
 refine WL.op rfl (opW.loadV rfl (hS.ldA (cs := Enc.enc x) (by repeat constructor) (Enc.size_eq _)) ?_)
 refine WL.op rfl (opW.call (need_ok _ x) rfl ?_)
 rintro _ w ⟨rfl, hw⟩; replace hS := hS.bel hw
 refine WL.op rfl (opW.lss rfl rfl ?_)
 refine WL.op rfl (opW.moveB rfl ?_)
 refine WL.gd _ 16 _ rfl rfl rfl rfl (fun hg17 => opW.moveV (v := va) rfl ⟨rfl, Bel.refl _⟩) (fun w hw => ?_)
 replace hS := hS.bel hw
 refine WL.gd _ 16 _ rfl rfl rfl rfl (fun hg18 => opW.moveV (v := (.func (.func 69) #[] #[.pointer (some ⟨b4, 0, none⟩)])) rfl ⟨rfl, Bel.refl _⟩) (fun w hw => ?_)
 replace hS := hS.bel hw
 refine WL.gd _ 16 (.bool (lacks r.length ats)) rfl rfl rfl rfl (fun hg19 => ?_) (fun w hw => ?_)
 ·refine opW.call (contains_ok _ va (.func (.func 69) #[] #[.pointer (some ⟨b4, 0, none⟩)]) ats (fun c => decide ((r.length : Int) ≤ (c.toNat : Int))) (ha.bel hS.old) (fun w' h c => ⟨_, [], [.pointer (some ⟨b4, 0, none⟩)], rfl, inferInstance, beyond_ok w' b4 sr.v r c ((hS.pt (by repeat constructor)).bel h) (hr.bel (hS.old.trans h))⟩)) (args2 (by first | exact gv_of rfl hg19 | rfl) (by first | exact gv_of rfl hg19 | rfl)) ?_
  rintro v w ⟨rfl, hw⟩; replace hS := hS.bel hw
  exact ⟨rfl, ‹_›⟩
 replace hS := hS.bel hw
 refine WL.op rfl (opW.pickOr rfl rfl (by first | rfl) ?_)
 refine WL.nil ?_
 refine thenQ_n (hK4 _ _ ?_)
 refine WC.cond _ rfl (fun hc0 => ?_) (fun hc0 => ?_)
 ·
  have hr0 := hc0
  try simp only [sq1,sq2,sq3,sq4,sq5,sq6,sq7,sq8,sq9,sq0] at hc0
  refine WC.seq (fun K5 hK5 => ?_)
  refine WC.region ?_
  refine WL.op rfl (opW.assignI rfl ?_)
  refine WL.nil ?_
  refine thenQ_n (hK5 _ _ ?_)
  refine WC.ret ?_
  refine thenQ_r ?_
  refine bodyQ_ret (.tmpI rfl .nil) ?_
  refine ⟨congrArg (Value.int .i64) ?_, hS.old⟩
  unfold takF; rw [if_pos hr0]
 ·
  have hr0 := hc0
  try simp only [sq1,sq2,sq3,sq4,sq5,sq6,sq7,sq8,sq9,sq0] at hc0
  obtain ⟨hl1, hl2⟩ := Bool.or_eq_false_iff.1 hr0
  simp only [decide_eq_false_iff_not] at hl1
  have hn := need_12 x.tag
  have htk : takF x.tag r ats = roleErrs x.tag r (ats.take (need x.tag)) 0 := by unfold takF; rw [if_neg (by rw [hr0]; decide)]
  have hln : (ats.take (need x.tag)).length = (need x.tag) := by simp; omega
  have hcut : SlR w0 (cutV va 0 (need x.tag) (capV va) (Enc.sz UInt8)) (ats.take (need x.tag)) := ha.front (by omega) (by have := ha.cap; omega) (Nat.le_refl _)
  have hrl := hr.le
  simp only [maxLen] at hrl
  refine WC.skip ?_
  refine thenQ_n (hK3 _ _ ?_)
  refine WC.seq (fun K6 hK6 => ?_)
  refine WC.seq (fun K7 hK7 => ?_)
  refine WC.region ?_
  refine WL.op rfl (opW.moveV (v := va) rfl ?_)
  refine WL.op rfl (opW.loadV rfl (hS.ldA (cs := Enc.enc x) (by repeat constructor) (Enc.size_eq _)) ?_)
  refine WL.op rfl (opW.call (need_ok _ x) rfl ?_)
  rintro _ w ⟨rfl, hw⟩; replace hS := hS.bel hw
  refine WL.op rfl (opW.cutS (l := 0) (h' := (need x.tag)) (m := capV va) (ha.bel hS.old) ⟨rfl, Nat.le_refl _⟩ ⟨⟨_, rfl⟩, by have := ha.cap; omega⟩ ⟨rfl, Nat.zero_le _⟩ ?_)
  refine WL.op rfl (opW.lenV rfl ((hcut.bel hS.old)) ?_)
  refine WL.op rfl (opW.moveI rfl ?_)
  refine WL.nil ?_
  refine thenQ_n (hK7 _ _ ?_)
  refine WC.block ?_
  refine WC.loop (fun q f w => ∃ k : Nat, Fits [(3, .pointer (some ⟨b3, 0, none⟩)), (4, .pointer (some ⟨b4, 0, none⟩)), (24, (cutV va 0 (need x.tag) (capV va) (Enc.sz UInt8))), (25, .int .i64 ((ats.take (need x.tag)).length : Int)), (26, .int .i64 (k : Int))] f ∧ St w0 [blkE b4 #[sr.v] 52, blkE b3 (Enc.enc x) 161] w ∧ roleErrs x.tag r ((ats.take (need x.tag)).drop k) k = roleErrs x.tag r (ats.take (need x.tag)) 0 ∧ k ≤ (ats.take (need x.tag)).length ∧ q = (ats.take (need x.tag)).length - k) ((ats.take (need x.tag)).length) ?_ ?_
  ·
   exact ⟨0, ⟨rfl, rfl, rfl, rfl, rfl, trivial⟩, hS, by rw [List.drop_zero], Nat.zero_le _, rfl⟩
  ·
   rintro q f w ⟨k, hfit, hS, hinv, hk0, hm⟩
   refine WC.fits _ hfit (fun g => ?_)
   clear hfit
   refine WC.seq (fun K8 hK8 => ?_)
   refine WC.region ?_
   refine WL.op rfl (opW.lss rfl rfl ?_)
   refine WL.nil ?_
   refine thenQ_n (hK8 _ _ ?_)
   refine WC.seq (fun K9 hK9 => ?_)
   refine WC.cond _ rfl (fun hc1 => ?_) (fun hc1 => ?_)
   ·
    have hr1 := hc1
    try simp only [sq1,sq2,sq3,sq4,sq5,sq6,sq7,sq8,sq9,sq0] at hc1
    have hkl : k < (ats.take (need x.tag)).length := by omega
    have hmem : (ats.take (need x.tag))[k] ∈ ats := List.mem_of_mem_take (List.getElem_mem hkl)
    have hkr := lacks_no hl2 hmem
    refine WC.skip ?_
    refine thenQ_n (hK9 _ _ ?_)
    refine WC.seq (fun K10 hK10 => ?_)
    refine WC.block ?_
    refine WC.seq (fun K11 hK11 => ?_)
    refine WC.region ?_
    refine WL.op rfl (opW.moveI rfl ?_)
    refine WL.op rfl (opW.idxV rfl ((hcut.bel hS.old)) rfl (by omega) ?_)
    refine WL.op rfl (opW.loadV rfl (((hcut.bel hS.old).isPt hkl).ld rfl) ?_)
    refine WL.op rfl (opW.assignI rfl ?_)
    refine WL.op rfl (opW.assignI rfl ?_)
    refine WL.nil ?_
    refine thenQ_n (hK11 _ _ ?_)
    refine WC.block ?_
    refine WC.seq (fun K12 hK12 => ?_)
    refine WC.region ?_
    refine WL.op rfl (opW.loadV rfl (hS.ld1 (by repeat constructor) rfl) ?_)
    refine WL.op rfl (opW.moveI rfl ?_)
    refine WL.op rfl (opW.idxV rfl ((hr.bel hS.old)) rfl (by omega) ?_)
    refine WL.op rfl (opW.fieldAddr rfl ((hr.bel hS.old).isP hkr) ?_)
    refine WL.op rfl (opW.loadV rfl (Ld.pt1 ((hr.bel hS.old).isPt hkr) 32 (Role.at_signs _)) ?_)
    refine WL.op rfl (opW.not rfl ?_)
    refine WL.op rfl (opW.moveB rfl ?_)
    refine WL.gd _ 38 _ rfl rfl rfl rfl (fun hg39 => opW.fieldAddrB rfl ⟨rfl, Bel.refl _⟩) (fun w hw => ?_)
    replace hS := hS.bel hw
    refine WL.gd _ 38 _ rfl rfl rfl rfl (fun hg40 => opW.loadV (by first | exact gv_of rfl hg40 | rfl) (hS.ld1 (by repeat constructor) (Ask.at_tag _)) ⟨rfl, Bel.refl _⟩) (fun w hw => ?_)
    replace hS := hS.bel hw
    refine WL.gd _ 38 _ rfl rfl rfl rfl (fun hg41 => opW.eql (by first | exact gv_of rfl hg41 | rfl) rfl ⟨rfl, Bel.refl _⟩) (fun w hw => ?_)
    replace hS := hS.bel hw
    refine WL.gd _ 38 _ rfl rfl rfl rfl (fun hg42 => opW.moveB (by first | exact gv_of rfl hg42 | rfl) ⟨rfl, Bel.refl _⟩) (fun w hw => ?_)
    replace hS := hS.bel hw
    refine WL.gd2 _ _ 42 _ rfl rfl rfl rfl (fun hg43 => opW.moveI rfl ⟨rfl, Bel.refl _⟩) (fun w hw => ?_)
    replace hS := hS.bel hw
    refine WL.gd2 _ _ 42 _ rfl rfl rfl rfl (fun hg44 => opW.gtr (by first | exact gv_of rfl hg44 | rfl) rfl ⟨rfl, Bel.refl _⟩) (fun w hw => ?_)
    replace hS := hS.bel hw
    refine WL.gd _ 38 _ rfl rfl rfl rfl (fun hg45 => opW.pickAnd (by first | exact gv_of rfl hg45 | rfl) (by first | exact gv_and rfl hg45 | rfl) rfl ⟨rfl, Bel.refl _⟩) (fun w hw => ?_)
    replace hS := hS.bel hw
    refine WL.gd _ 38 _ rfl rfl rfl rfl (fun hg46 => opW.not (by first | exact gv_of rfl hg46 | rfl) ⟨rfl, Bel.refl _⟩) (fun w hw => ?_)
    replace hS := hS.bel hw
    refine WL.op rfl (opW.pickAnd rfl (by first | rfl) rfl ?_)
    refine WL.op rfl (opW.assignB rfl ?_)
    refine WL.nil ?_
    refine thenQ_n (hK12 _ _ ?_)
    refine WC.cond _ rfl (fun hc2 => ?_) (fun hc2 => ?_)
    ·
     have hr2 := hc2
     try simp only [sq1,sq2,sq3,sq4,sq5,sq6,sq7,sq8,sq9,sq0] at hc2
     refine WC.seq (fun K13 hK13 => ?_)
     refine WC.region ?_
     refine WL.op rfl (opW.assignI rfl ?_)
     refine WL.nil ?_
     refine thenQ_n (hK13 _ _ ?_)
     refine WC.ret ?_
     refine blockQ_r ?_
     refine blockQ_r ?_
     refine thenQ_r ?_
     refine thenQ_r ?_
     refine blockQ_r ?_
     refine thenQ_r ?_
     refine bodyQ_ret (.tmpI rfl .nil) ?_
     refine ⟨congrArg (Value.int .i64) ?_, hS.old⟩
     rw [htk, ← hinv, roleErrs_hit hkl (roleErr_s hkr hr2) (by decide)]
    ·
     have hr2 := hc2
     try simp only [sq1,sq2,sq3,sq4,sq5,sq6,sq7,sq8,sq9,sq0] at hc2
     refine WC.seq (fun K14 hK14 => ?_)
     refine WC.region ?_
     refine WL.op rfl (opW.loadV rfl (hS.ld1 (by repeat constructor) rfl) ?_)
     refine WL.op rfl (opW.moveI rfl ?_)
     refine WL.op rfl (opW.idxV rfl ((hr.bel hS.old)) rfl (by omega) ?_)
     refine WL.op rfl (opW.fieldAddr rfl ((hr.bel hS.old).isP hkr) ?_)
     refine WL.op rfl (opW.loadV rfl (Ld.pt1 ((hr.bel hS.old).isPt hkr) 33 (Role.at_writes _)) ?_)
     refine WL.op rfl (opW.not rfl ?_)
     refine WL.op rfl (opW.assignB rfl ?_)
     refine WL.nil ?_
     refine thenQ_n (hK14 _ _ ?_)
     refine WC.cond _ rfl (fun hc3 => ?_) (fun hc3 => ?_)
     ·
      have hr3 := hc3
      try simp only [sq1,sq2,sq3,sq4,sq5,sq6,sq7,sq8,sq9,sq0] at hc3
      refine WC.seq (fun K15 hK15 => ?_)
      refine WC.region ?_
      refine WL.op rfl (opW.assignI rfl ?_)
      refine WL.nil ?_
      refine thenQ_n (hK15 _ _ ?_)
      refine WC.ret ?_
      refine blockQ_r ?_
      refine blockQ_r ?_
      refine thenQ_r ?_
      refine thenQ_r ?_
      refine blockQ_r ?_
      refine thenQ_r ?_
      refine bodyQ_ret (.tmpI rfl .nil) ?_
      refine ⟨congrArg (Value.int .i64) ?_, hS.old⟩
      rw [htk, ← hinv, roleErrs_hit hkl (roleErr_w hkr hr2 hr3) (by decide)]
     ·
      have hr3 := hc3
      try simp only [sq1,sq2,sq3,sq4,sq5,sq6,sq7,sq8,sq9,sq0] at hc3
      refine WC.skip ?_
      refine blockQ_n ?_
      refine blockQ_n ?_
      refine thenQ_n (hK10 _ _ ?_)
      refine WC.region ?_
      refine WL.op rfl (opW.add rfl rfl (wrap_i64 (by omega)) ?_)
      refine WL.op rfl (opW.moveI rfl ?_)
      refine WL.nil ?_
      refine thenQ_n ?_
      rw [roleErrs_go hkl (roleErr_0 hkr hr2 hr3)] at hinv
      exact ⟨(ats.take (need x.tag)).length - (k + 1), by omega, k + 1, ⟨rfl, rfl, rfl, rfl, congrArg (Value.int .i64) (by omega), trivial⟩, hS, hinv, by omega, rfl⟩
   ·
    have hr1 := hc1
    try simp only [sq1,sq2,sq3,sq4,sq5,sq6,sq7,sq8,sq9,sq0] at hc1
    refine WC.exit ?_
    refine thenQ_e ?_
    refine thenQ_e ?_
    refine blockQ_hit ?_
    refine thenQ_n (hK6 _ _ ?_)
    refine WC.seq (fun K16 hK16 => ?_)
    refine WC.region ?_
    refine WL.op rfl (opW.assignI rfl ?_)
    refine WL.nil ?_
    refine thenQ_n (hK16 _ _ ?_)
    refine WC.ret ?_
    refine bodyQ_ret (.tmpI rfl .nil) ?_
    refine ⟨congrArg (Value.int .i64) ?_, hS.old⟩
    rw [htk, ← hinv, List.drop_of_length_le (by omega)]; rfl

def sysK : Key := vz 32
def az : Account := ⟨0, vz 32, 0⟩
def plainB (a : Account) : Bool := decide (a.owner = sysK) && decide ((a.space : Int) = 0)
theorem ptrAdd0 (v : Value) (i s : Nat) : ptrAdd (elemP v i s) 0 = elemP v i s := by
 unfold elemP
 split <;> simp [ptrAdd, undef]
def mkE (x : Ask) (A B : Account) : Int := if (!decide (B = az)) = true then 12 else if (!plainB A) = true then 16 else if (1048576 : Int) < (x.space : Int) then 3 else if (A.coins : Int) < (x.coins : Int) then 17 else 0
def asE (A : Account) : Int := if (!decide (A.owner = sysK)) = true then 16 else 0
def mvE (x : Ask) (A B : Account) (same : Bool) : Int := if (!plainB A) = true then 16 else if (A.coins : Int) < (x.coins : Int) then 17 else if same = true then 0 else if ((18446744073709551615 - x.coins : Nat) : Int) < (B.coins : Int) then 18 else 0
def alE (x : Ask) (A : Account) : Int := if (!plainB A) = true then 12 else if (1048576 : Int) < (x.space : Int) then 3 else 0
def mkL (x : Ask) (l : List Account) (a b : Nat) (A : Account) : List Account := (l.set a { A with coins := A.coins - x.coins }).set b ⟨x.coins, x.owner, x.space⟩
def mvL (x : Ask) (l : List Account) (a b : Nat) (A B : Account) : List Account := if a = b then l else (l.set a { A with coins := A.coins - x.coins }).set b { B with coins := B.coins + x.coins }
def okW (a : Account) : Prop := a.coins < 18446744073709551616 ∧ a.space < 18446744073709551616
theorem sub_max (n : Nat) (h : n < 18446744073709551616) : IntKind.u64.wrap (18446744073709551615 - (n : Int)) = ((18446744073709551615 - n : Nat) : Int) := by rw [IntKind.wrap_u64]; omega

theorem sys_ok (w0 : World) : Ret Tryd.prog 36 #[] w0 (fun u w' => u = .agg (Enc.enc sysK) ∧ Bel w0 w') := by
 refine Ret.enter (args := []) Tryd.func36 rfl Tryd.ntmps36 Tryd.results36 rfl ?_
 have hS := St.start w0
 refine WC.seq (fun K1 hK1 => ?_)
 refine WC.region ?_
 refine WL.op rfl (opW.allocA hS ?_)
 intro b0 w _ hS
 refine WL.nil ?_
 refine thenQ_n (hK1 _ _ ?_)
 refine WC.seq (fun K2 hK2 => ?_)
 refine WC.region ?_
 refine WL.op rfl (opW.buildVec (k := sysK) (by first | rfl | (simp only [sysK, az, enc_vset, enc_vz]; rfl)) (by intro p hp; first | (exfalso; simp at hp; done) | (simp only [List.map_cons, List.map_nil, List.mem_cons, List.not_mem_nil, or_false] at hp; rcases hp with rfl | rfl | rfl | rfl <;> exact ⟨by simp, rfl⟩)) ?_)
 refine WL.op0 (opW.storeE hS rfl rfl (by repeat constructor) (by first | rfl | exact Enc.size_eq _) ?_)
 intro w hS; replace hS := hS _ (by repeat constructor)
 refine WL.nil ?_
 refine thenQ_n (hK2 _ _ ?_)
 refine WC.ret ?_
 refine bodyQ_ret (.cell (hS.ldA (by repeat constructor) (Enc.size_eq sysK)) .nil) ?_
 exact ⟨rfl, hS.old⟩

theorem plain_ok (w0 : World) (a : Account) : Ret Tryd.prog 77 #[.agg (Enc.enc a)] w0 (fun u w' => u = .bool (plainB a) ∧ Bel w0 w') := by
 refine Ret.enter (args := [.agg (Enc.enc a)]) Tryd.func77 rfl Tryd.ntmps77 Tryd.results77 rfl ?_
 have hS := St.start w0
 refine WC.seq (fun K1 hK1 => ?_)
 refine WC.region ?_
 refine WL.op rfl (opW.boxA hS rfl ?_)
 intro b1 w _ hS
 refine WL.op rfl (opW.assignB rfl ?_)
 refine WL.nil ?_
 refine thenQ_n (hK1 _ _ ?_)
 refine WC.seq (fun K2 hK2 => ?_)
 refine WC.draw 10 (.look 0 (.look 1 (.one 2 (.look 3 (.look 4 (.look 5 (.look 6 (.look 7 (.look 8 (.look 9 .nil)))))))))) (by kernel_rfl) (fun _ _ _ h => h) (fun w1 hw1 => ?_)
 replace hS := hS.bel hw1
 have hS1 := hS
 have hT := St.start w1
 refine ML.look rfl rfl rfl (fun w hw => (by have hS := hS1.bel hw; exact opW.fieldAddrB rfl ⟨rfl, rfl⟩)) ?_
 refine ML.look rfl rfl rfl (fun w hw => (by have hS := hS1.bel hw; exact opW.loadV rfl (hS.ldF (cs := Enc.enc a) (o := 1) (by repeat constructor) (Account.ex_owner _) (by rw [Enc.size_eq]; decide)) ⟨rfl, rfl⟩)) ?_
 refine ML.one rfl rfl rfl (opW.call (sys_ok _) rfl ?_)
 rintro _ w ⟨rfl, hw⟩; replace hT := hT.bel hw
 refine ⟨hT.old, ?_⟩
 have hS := hS1.merge hT
 try simp only [List.cons_append, List.nil_append] at hS
 refine ML.look rfl rfl rfl (fun w hw => (by have hS := hS1.bel hw; exact opW.eqlE rfl rfl ⟨rfl, rfl⟩)) ?_
 refine ML.look rfl rfl rfl (fun w hw => (by have hS := hS1.bel hw; exact opW.moveB rfl ⟨rfl, rfl⟩)) ?_
 refine ML.lookG  _ 7 rfl rfl rfl rfl rfl rfl (fun hg8 w hw => (by have hS := hS1.bel hw; exact opW.fieldAddrB rfl ⟨rfl, rfl⟩)) ?_
 refine ML.lookG  _ 7 rfl rfl rfl rfl rfl rfl (fun hg9 w hw => (by have hS := hS1.bel hw; exact opW.loadV (by first | exact gv_of rfl hg9 | rfl) (hS.ld1 (by repeat constructor) (Account.at_space _)) ⟨rfl, rfl⟩)) ?_
 refine ML.lookG  _ 7 rfl rfl rfl rfl rfl rfl (fun hg10 w hw => (by have hS := hS1.bel hw; exact opW.eql (by first | exact gv_of rfl hg10 | rfl) rfl ⟨rfl, rfl⟩)) ?_
 refine ML.look rfl rfl rfl (fun w hw => (by have hS := hS1.bel hw; exact opW.pickAnd rfl (by first | rfl) rfl ⟨rfl, rfl⟩)) ?_
 refine ML.look rfl rfl rfl (fun w hw => (by have hS := hS1.bel hw; exact opW.assignB rfl ⟨rfl, rfl⟩)) ?_
 refine ML.nil ?_
 refine thenQ_n (hK2 _ _ ?_)
 refine WC.ret ?_
 refine bodyQ_ret (.tmpB rfl .nil) ?_
 exact ⟨rfl, hS.old⟩

theorem make_ok (wb w0 : World) (S : List Ent) (x : Ask) (pr : PairS) (ov : Value) (out : List Account) (a b : Nat) (ha : a < out.length) (hb : b < out.length) (h1 : Value.pointer pr.first = elemP ov a (Enc.sz Account)) (h2 : Value.pointer pr.second = elemP ov b (Enc.sz Account)) (hxw : x.coins < 18446744073709551616 ∧ x.space < 18446744073709551616) (hAw : okW out[a]) (hBw : okW out[b]) (hS0 : St wb (ownE ov 64 out :: S) w0) : Ret Tryd.prog 71 #[.agg (Enc.enc x), .agg (Enc.enc pr)] w0 (fun u w' => ∃ out' : List Account, u = .int .i64 (mkE x out[a] out[b]) ∧ (mkE x out[a] out[b] = 0 → out' = mkL x out a b out[a]) ∧ St wb (ownE ov 64 out' :: S) w') := by
 refine Ret.enter (args := [.agg (Enc.enc x), .agg (Enc.enc pr)]) Tryd.func71 rfl Tryd.ntmps71 Tryd.results71 rfl ?_
 have hS := St.start w0
 replace hS := hS0
 refine WC.seq (fun K1 hK1 => ?_)
 refine WC.region ?_
 refine WL.op rfl (opW.boxA hS rfl ?_)
 intro b2 w _ hS
 refine WL.op rfl (opW.boxA hS rfl ?_)
 intro b3 w _ hS
 refine WL.op rfl (opW.assignI rfl ?_)
 refine WL.nil ?_
 refine thenQ_n (hK1 _ _ ?_)
 refine WC.seq (fun K2 hK2 => ?_)
 refine WC.block ?_
 refine WC.seq (fun K3 hK3 => ?_)
 refine WC.region ?_
 refine WL.op rfl (opW.fieldAddrB rfl ?_)
 refine WL.op rfl (opW.loadV rfl (hS.ld1 (by repeat constructor) ((PairS.at_second _).trans (congrArg some h2))) ?_)
 refine WL.op rfl (opW.nilCheck rfl ((hS.sl (v := ov) (xs := out) (by repeat constructor)).isP hb) ?_)
 refine WL.op rfl (opW.loadV rfl (((hS.sl (v := ov) (xs := out) (by repeat constructor)).isPt hb).ldA (Enc.size_eq out[b])) ?_)
 refine WL.op rfl (opW.buildE (r := ((az : Account) : Account)) (ps := Account.parts ((az : Account) : Account)) (Account.enc_eq _) (by first | (simp only [sysK, az, enc_vset, enc_vz, Account.enc_eq, Account.parts, Role.enc_eq, Role.parts, Instr.enc_eq, Instr.parts, Ask.enc_eq, Ask.parts, Cut.enc_eq, Cut.parts, PairS.enc_eq, PairS.parts, Header.enc_eq, Header.parts, Lookup.enc_eq, Lookup.parts, Message.enc_eq, Message.parts, Tx.enc_eq, Tx.parts, Budget.enc_eq, Budget.parts, Ready.enc_eq, Ready.parts, Holding.enc_eq, Holding.parts, Outcome.enc_eq, Outcome.parts, Running.enc_eq, Running.parts]; rfl) | rfl) (by (repeat' (first | exact trivial | refine And.intro ?_ ?_)) <;> first | rfl | exact Enc.size_eq _ | (simp; done)) ?_)
 refine WL.op rfl (opW.neqE rfl rfl ?_)
 refine WL.op rfl (opW.assignB rfl ?_)
 refine WL.nil ?_
 refine thenQ_n (hK3 _ _ ?_)
 refine WC.cond _ rfl (fun hc0 => ?_) (fun hc0 => ?_)
 ·
  have hr0 := hc0
  try simp only [sq1,sq2,sq3,sq4,sq5,sq6,sq7,sq8,sq9,sq0] at hc0
  refine WC.seq (fun K4 hK4 => ?_)
  refine WC.region ?_
  refine WL.op rfl (opW.assignI rfl ?_)
  refine WL.nil ?_
  refine thenQ_n (hK4 _ _ ?_)
  refine WC.ret ?_
  refine blockQ_r ?_
  refine thenQ_r ?_
  refine bodyQ_ret (.tmpI rfl .nil) ?_
  have he : mkE x out[a] out[b] = 12 := by unfold mkE; rw [if_pos hr0]
  rw [he]
  exact ⟨out, rfl, fun h => absurd h (by decide), hS.drop1.drop1⟩
 ·
  have hr0 := hc0
  try simp only [sq1,sq2,sq3,sq4,sq5,sq6,sq7,sq8,sq9,sq0] at hc0
  refine WC.seq (fun K5 hK5 => ?_)
  refine WC.region ?_
  refine WL.op rfl (opW.fieldAddrB rfl ?_)
  refine WL.op rfl (opW.loadV rfl (hS.ld1 (by repeat constructor) ((PairS.at_first _).trans (congrArg some h1))) ?_)
  refine WL.op rfl (opW.nilCheck rfl ((hS.sl (v := ov) (xs := out) (by repeat constructor)).isP ha) ?_)
  refine WL.op rfl (opW.loadV rfl (((hS.sl (v := ov) (xs := out) (by repeat constructor)).isPt ha).ldA (Enc.size_eq out[a])) ?_)
  refine WL.op rfl (opW.call (plain_ok _ out[a]) rfl ?_)
  rintro _ w ⟨rfl, hw⟩; replace hS := hS.bel hw
  refine WL.op rfl (opW.not rfl ?_)
  refine WL.op rfl (opW.assignB rfl ?_)
  refine WL.nil ?_
  refine thenQ_n (hK5 _ _ ?_)
  refine WC.cond _ rfl (fun hc1 => ?_) (fun hc1 => ?_)
  ·
   have hr1 := hc1
   try simp only [sq1,sq2,sq3,sq4,sq5,sq6,sq7,sq8,sq9,sq0] at hc1
   refine WC.seq (fun K6 hK6 => ?_)
   refine WC.region ?_
   refine WL.op rfl (opW.assignI rfl ?_)
   refine WL.nil ?_
   refine thenQ_n (hK6 _ _ ?_)
   refine WC.ret ?_
   refine blockQ_r ?_
   refine thenQ_r ?_
   refine bodyQ_ret (.tmpI rfl .nil) ?_
   have he : mkE x out[a] out[b] = 16 := by unfold mkE; rw [if_neg (by rw [hr0]; decide), if_pos hr1]
   rw [he]
   exact ⟨out, rfl, fun h => absurd h (by decide), hS.drop1.drop1⟩
  ·
   have hr1 := hc1
   try simp only [sq1,sq2,sq3,sq4,sq5,sq6,sq7,sq8,sq9,sq0] at hc1
   refine WC.seq (fun K7 hK7 => ?_)
   refine WC.region ?_
   refine WL.op rfl (opW.fieldAddrB rfl ?_)
   refine WL.op rfl (opW.loadV rfl (hS.ld1 (by repeat constructor) (Ask.at_space _)) ?_)
   refine WL.op rfl (opW.gtr rfl rfl ?_)
   refine WL.op rfl (opW.assignB rfl ?_)
   refine WL.nil ?_
   refine thenQ_n (hK7 _ _ ?_)
   refine WC.cond _ rfl (fun hc2 => ?_) (fun hc2 => ?_)
   ·
    have hr2 := hc2
    try simp only [sq1,sq2,sq3,sq4,sq5,sq6,sq7,sq8,sq9,sq0] at hc2
    refine WC.seq (fun K8 hK8 => ?_)
    refine WC.region ?_
    refine WL.op rfl (opW.assignI rfl ?_)
    refine WL.nil ?_
    refine thenQ_n (hK8 _ _ ?_)
    refine WC.ret ?_
    refine blockQ_r ?_
    refine thenQ_r ?_
    refine bodyQ_ret (.tmpI rfl .nil) ?_
    have he : mkE x out[a] out[b] = 3 := by unfold mkE; rw [if_neg (by rw [hr0]; decide), if_neg (by rw [hr1]; decide), if_pos hc2]
    rw [he]
    exact ⟨out, rfl, fun h => absurd h (by decide), hS.drop1.drop1⟩
   ·
    have hr2 := hc2
    try simp only [sq1,sq2,sq3,sq4,sq5,sq6,sq7,sq8,sq9,sq0] at hc2
    refine WC.seq (fun K9 hK9 => ?_)
    refine WC.draw 9 (.look 0 (.look 1 (.look 2 (.look 3 (.look 4 (.look 5 (.look 6 (.look 7 (.look 8 .nil))))))))) (by kernel_rfl) (fun _ _ _ h => h) (fun w1 hw1 => ?_)
    replace hS := hS.bel hw1
    have hS1 := hS
    have hT := St.start w1
    refine ML.look rfl rfl rfl (fun w hw => (by have hS := hS1.bel hw; exact opW.fieldAddrB rfl ⟨rfl, rfl⟩)) ?_
    refine ML.look rfl rfl rfl (fun w hw => (by have hS := hS1.bel hw; exact opW.loadV rfl (hS.ld1 (by repeat constructor) ((PairS.at_first _).trans (congrArg some h1))) ⟨rfl, rfl⟩)) ?_
    refine ML.look rfl rfl rfl (fun w hw => (by have hS := hS1.bel hw; exact opW.nilCheck rfl ((hS.sl (v := ov) (xs := out) (by repeat constructor)).isP ha) ⟨rfl, rfl⟩)) ?_
    refine ML.look rfl rfl rfl (fun w hw => (by have hS := hS1.bel hw; exact opW.fieldAddr rfl ((hS.sl (v := ov) (xs := out) (by repeat constructor)).isP ha) ⟨rfl, rfl⟩)) ?_
    refine ML.look rfl rfl rfl (fun w hw => (by have hS := hS1.bel hw; exact opW.loadV rfl (Ld.pt1 ((hS.sl (v := ov) (xs := out) (by repeat constructor)).isPt ha) 0 (Account.at_coins _)) ⟨rfl, rfl⟩)) ?_
    refine ML.look rfl rfl rfl (fun w hw => (by have hS := hS1.bel hw; exact opW.fieldAddrB rfl ⟨rfl, rfl⟩)) ?_
    refine ML.look rfl rfl rfl (fun w hw => (by have hS := hS1.bel hw; exact opW.loadV rfl (hS.ld1 (by repeat constructor) (Ask.at_coins _)) ⟨rfl, rfl⟩)) ?_
    refine ML.look rfl rfl rfl (fun w hw => (by have hS := hS1.bel hw; exact opW.lss rfl rfl ⟨rfl, rfl⟩)) ?_
    refine ML.look rfl rfl rfl (fun w hw => (by have hS := hS1.bel hw; exact opW.assignB rfl ⟨rfl, rfl⟩)) ?_
    refine ML.nil ?_
    refine thenQ_n (hK9 _ _ ?_)
    refine WC.cond _ rfl (fun hc3 => ?_) (fun hc3 => ?_)
    ·
     have hr3 := hc3
     try simp only [sq1,sq2,sq3,sq4,sq5,sq6,sq7,sq8,sq9,sq0] at hc3
     refine WC.seq (fun K10 hK10 => ?_)
     refine WC.region ?_
     refine WL.op rfl (opW.assignI rfl ?_)
     refine WL.nil ?_
     refine thenQ_n (hK10 _ _ ?_)
     refine WC.ret ?_
     refine blockQ_r ?_
     refine thenQ_r ?_
     refine bodyQ_ret (.tmpI rfl .nil) ?_
     have he : mkE x out[a] out[b] = 17 := by unfold mkE; rw [if_neg (by rw [hr0]; decide), if_neg (by rw [hr1]; decide), if_neg (by omega), if_pos hc3]
     rw [he]
     exact ⟨out, rfl, fun h => absurd h (by decide), hS.drop1.drop1⟩
    ·
     have hr3 := hc3
     try simp only [sq1,sq2,sq3,sq4,sq5,sq6,sq7,sq8,sq9,sq0] at hc3
     refine WC.skip ?_
     refine blockQ_n ?_
     refine thenQ_n (hK2 _ _ ?_)
     refine WC.seq (fun K11 hK11 => ?_)
     refine WC.draw 10 (.look 0 (.look 1 (.look 2 (.look 3 (.look 4 (.look 5 (.look 6 (.look 7 (.look 8 (.look 9 (.one 10 .nil))))))))))) (by kernel_rfl) (fun _ _ _ h => h) (fun w1 hw1 => ?_)
     replace hS := hS.bel hw1
     have hS1 := hS
     have hT := St.start w1
     refine ML.look rfl rfl rfl (fun w hw => (by have hS := hS1.bel hw; exact opW.fieldAddrB rfl ⟨rfl, rfl⟩)) ?_
     refine ML.look rfl rfl rfl (fun w hw => (by have hS := hS1.bel hw; exact opW.loadV rfl (hS.ld1 (by repeat constructor) ((PairS.at_first _).trans (congrArg some h1))) ⟨rfl, rfl⟩)) ?_
     refine ML.look rfl rfl rfl (fun w hw => (by have hS := hS1.bel hw; exact opW.nilCheck rfl ((hS.sl (v := ov) (xs := out) (by repeat constructor)).isP ha) ⟨rfl, rfl⟩)) ?_
     refine ML.look rfl rfl rfl (fun w hw => (by have hS := hS1.bel hw; exact opW.fieldAddr rfl ((hS.sl (v := ov) (xs := out) (by repeat constructor)).isP ha) ⟨rfl, rfl⟩)) ?_
     refine ML.look rfl rfl rfl (fun w hw => (by have hS := hS1.bel hw; exact opW.loadV rfl (Ld.pt1 ((hS.sl (v := ov) (xs := out) (by repeat constructor)).isPt ha) 0 (Account.at_coins _)) ⟨rfl, rfl⟩)) ?_
     refine ML.look rfl rfl rfl (fun w hw => (by have hS := hS1.bel hw; exact opW.fieldAddrB rfl ⟨rfl, rfl⟩)) ?_
     refine ML.look rfl rfl rfl (fun w hw => (by have hS := hS1.bel hw; exact opW.loadV rfl (hS.ld1 (by repeat constructor) (Ask.at_coins _)) ⟨rfl, rfl⟩)) ?_
     refine ML.look rfl rfl rfl (fun w hw => (by have hS := hS1.bel hw; exact opW.sub rfl rfl (nsub (by omega) hAw.1) ⟨rfl, rfl⟩)) ?_
     refine ML.look rfl rfl rfl (fun w hw => (by have hS := hS1.bel hw; exact opW.nilCheck rfl ((hS.sl (v := ov) (xs := out) (by repeat constructor)).isP ha) ⟨rfl, rfl⟩)) ?_
     refine ML.look rfl rfl rfl (fun w hw => (by have hS := hS1.bel hw; exact opW.fieldAddr rfl ((hS.sl (v := ov) (xs := out) (by repeat constructor)).isP ha) ⟨rfl, rfl⟩)) ?_
     refine ML.put0 rfl rfl rfl (opW.storeOwn (v := ov) (u := .int .u64 ((out[a].coins - x.coins : Nat) : Int)) (sz := 1) (xs := out) (i := a) (off := 0) (y' := { out[a] with coins := out[a].coins - x.coins }) hS (by repeat constructor) ha rfl rfl rfl (by decide) (one_int _ _) (Account.set_coins out[a] (out[a].coins - x.coins)) ?_)
     intro w hS; replace hS := hS _ (by repeat constructor)
     refine ML.nil ?_
     refine thenQ_n (hK11 _ _ ?_)
     refine WC.seq (fun K12 hK12 => ?_)
     refine WC.region ?_
     have hb2 : b < (out.set a { out[a] with coins := out[a].coins - x.coins }).length := by simpa using hb
     refine WL.op rfl (opW.fieldAddrB rfl ?_)
     refine WL.op rfl (opW.loadV rfl (hS.ld1 (by repeat constructor) ((PairS.at_second _).trans (congrArg some h2))) ?_)
     refine WL.op rfl (opW.fieldAddrB rfl ?_)
     refine WL.op rfl (opW.loadV rfl (hS.ld1 (by repeat constructor) (Ask.at_coins _)) ?_)
     refine WL.op rfl (opW.fieldAddrB rfl ?_)
     refine WL.op rfl (opW.loadV rfl (hS.ldF (cs := Enc.enc x) (o := 3) (by repeat constructor) (Ask.ex_owner _) (by rw [Enc.size_eq]; decide)) ?_)
     refine WL.op rfl (opW.fieldAddrB rfl ?_)
     refine WL.op rfl (opW.loadV rfl (hS.ld1 (by repeat constructor) (Ask.at_space _)) ?_)
     refine WL.op rfl (opW.buildE (r := ((⟨x.coins, x.owner, x.space⟩ : Account) : Account)) (ps := Account.parts ((⟨x.coins, x.owner, x.space⟩ : Account) : Account)) (Account.enc_eq _) (by first | (simp only [sysK, az, enc_vset, enc_vz, Account.enc_eq, Account.parts, Role.enc_eq, Role.parts, Instr.enc_eq, Instr.parts, Ask.enc_eq, Ask.parts, Cut.enc_eq, Cut.parts, PairS.enc_eq, PairS.parts, Header.enc_eq, Header.parts, Lookup.enc_eq, Lookup.parts, Message.enc_eq, Message.parts, Tx.enc_eq, Tx.parts, Budget.enc_eq, Budget.parts, Ready.enc_eq, Ready.parts, Holding.enc_eq, Holding.parts, Outcome.enc_eq, Outcome.parts, Running.enc_eq, Running.parts]; rfl) | rfl) (by (repeat' (first | exact trivial | refine And.intro ?_ ?_)) <;> first | rfl | exact Enc.size_eq _ | (simp; done)) ?_)
     refine WL.op rfl (opW.nilCheck rfl ((hS.sl (v := ov) (xs := (out.set a { out[a] with coins := out[a].coins - x.coins })) (by repeat constructor)).isP hb2) ?_)
     refine WL.op0 (opW.storeOwn (v := ov) (u := .agg (Enc.enc (⟨x.coins, x.owner, x.space⟩ : Account))) (sz := 34) (xs := (out.set a { out[a] with coins := out[a].coins - x.coins })) (i := b) (off := 0) (y' := ⟨x.coins, x.owner, x.space⟩) hS (by repeat constructor) hb2 (ptrAdd0 ov b (Enc.sz Account)).symm rfl (Enc.size_eq (α := Account) _) (by decide) (Enc.one (α := Account) _) (spl_all (by rw [show Value.cells (.agg (Enc.enc (⟨x.coins, x.owner, x.space⟩ : Account))) = Enc.enc (⟨x.coins, x.owner, x.space⟩ : Account) from rfl, Enc.size_eq, Enc.size_eq])) ?_)
     intro w hS; replace hS := hS _ (by repeat constructor)
     refine WL.nil ?_
     refine thenQ_n (hK12 _ _ ?_)
     refine WC.seq (fun K13 hK13 => ?_)
     refine WC.region ?_
     refine WL.op rfl (opW.assignI rfl ?_)
     refine WL.nil ?_
     refine thenQ_n (hK13 _ _ ?_)
     refine WC.ret ?_
     refine bodyQ_ret (.tmpI rfl .nil) ?_
     have he : mkE x out[a] out[b] = 0 := by unfold mkE; rw [if_neg (by rw [hr0]; decide), if_neg (by rw [hr1]; decide), if_neg (by omega), if_neg (by omega)]
     rw [he]
     exact ⟨mkL x out a b out[a], rfl, fun _ => rfl, hS.drop1.drop1⟩

theorem assign_ok (wb w0 : World) (S : List Ent) (x : Ask) (pr : PairS) (ov : Value) (out : List Account) (a b : Nat) (ha : a < out.length) (hb : b < out.length) (h1 : Value.pointer pr.first = elemP ov a (Enc.sz Account)) (h2 : Value.pointer pr.second = elemP ov b (Enc.sz Account)) (hxw : x.coins < 18446744073709551616 ∧ x.space < 18446744073709551616) (hAw : okW out[a]) (hBw : okW out[b]) (hS0 : St wb (ownE ov 64 out :: S) w0) : Ret Tryd.prog 72 #[.agg (Enc.enc x), .agg (Enc.enc pr)] w0 (fun u w' => ∃ out' : List Account, u = .int .i64 (asE out[a]) ∧ (asE out[a] = 0 → out' = out.set a { out[a] with owner := x.owner }) ∧ St wb (ownE ov 64 out' :: S) w') := by
 refine Ret.enter (args := [.agg (Enc.enc x), .agg (Enc.enc pr)]) Tryd.func72 rfl Tryd.ntmps72 Tryd.results72 rfl ?_
 have hS := St.start w0
 replace hS := hS0
 refine WC.seq (fun K1 hK1 => ?_)
 refine WC.region ?_
 refine WL.op rfl (opW.boxA hS rfl ?_)
 intro b2 w _ hS
 refine WL.op rfl (opW.boxA hS rfl ?_)
 intro b3 w _ hS
 refine WL.op rfl (opW.assignI rfl ?_)
 refine WL.nil ?_
 refine thenQ_n (hK1 _ _ ?_)
 refine WC.seq (fun K2 hK2 => ?_)
 refine WC.seq (fun K3 hK3 => ?_)
 refine WC.draw 7 (.look 0 (.look 1 (.look 2 (.look 3 (.look 4 (.one 5 (.look 6 .nil))))))) (by kernel_rfl) (fun _ _ _ h => h) (fun w1 hw1 => ?_)
 replace hS := hS.bel hw1
 have hS1 := hS
 have hT := St.start w1
 refine ML.look rfl rfl rfl (fun w hw => (by have hS := hS1.bel hw; exact opW.fieldAddrB rfl ⟨rfl, rfl⟩)) ?_
 refine ML.look rfl rfl rfl (fun w hw => (by have hS := hS1.bel hw; exact opW.loadV rfl (hS.ld1 (by repeat constructor) ((PairS.at_first _).trans (congrArg some h1))) ⟨rfl, rfl⟩)) ?_
 refine ML.look rfl rfl rfl (fun w hw => (by have hS := hS1.bel hw; exact opW.nilCheck rfl ((hS.sl (v := ov) (xs := out) (by repeat constructor)).isP ha) ⟨rfl, rfl⟩)) ?_
 refine ML.look rfl rfl rfl (fun w hw => (by have hS := hS1.bel hw; exact opW.fieldAddr rfl ((hS.sl (v := ov) (xs := out) (by repeat constructor)).isP ha) ⟨rfl, rfl⟩)) ?_
 refine ML.look rfl rfl rfl (fun w hw => (by have hS := hS1.bel hw; exact opW.loadV rfl (Ld.ptA ((hS.sl (v := ov) (xs := out) (by repeat constructor)).isPt ha) 1 (Account.ex_owner _) (by rw [Enc.size_eq]; decide)) ⟨rfl, rfl⟩)) ?_
 refine ML.one rfl rfl rfl (opW.call (sys_ok _) rfl ?_)
 rintro _ w ⟨rfl, hw⟩; replace hT := hT.bel hw
 refine ⟨hT.old, ?_⟩
 have hS := hS1.merge hT
 try simp only [List.cons_append, List.nil_append] at hS
 refine ML.look rfl rfl rfl (fun w hw => (by have hS := hS1.bel hw; exact opW.neqE rfl rfl ⟨rfl, rfl⟩)) ?_
 refine ML.nil ?_
 refine thenQ_n (hK3 _ _ ?_)
 refine WC.cond _ rfl (fun hc0 => ?_) (fun hc0 => ?_)
 ·
  have hr0 := hc0
  try simp only [sq1,sq2,sq3,sq4,sq5,sq6,sq7,sq8,sq9,sq0] at hc0
  refine WC.seq (fun K4 hK4 => ?_)
  refine WC.region ?_
  refine WL.op rfl (opW.assignI rfl ?_)
  refine WL.nil ?_
  refine thenQ_n (hK4 _ _ ?_)
  refine WC.ret ?_
  refine thenQ_r ?_
  refine bodyQ_ret (.tmpI rfl .nil) ?_
  have he : asE out[a] = 16 := by unfold asE; rw [if_pos hr0]
  rw [he]
  exact ⟨out, rfl, fun h => absurd h (by decide), hS.drop1.drop1⟩
 ·
  have hr0 := hc0
  try simp only [sq1,sq2,sq3,sq4,sq5,sq6,sq7,sq8,sq9,sq0] at hc0
  refine WC.skip ?_
  refine thenQ_n (hK2 _ _ ?_)
  refine WC.seq (fun K5 hK5 => ?_)
  refine WC.region ?_
  refine WL.op rfl (opW.fieldAddrB rfl ?_)
  refine WL.op rfl (opW.loadV rfl (hS.ld1 (by repeat constructor) ((PairS.at_first _).trans (congrArg some h1))) ?_)
  refine WL.op rfl (opW.fieldAddrB rfl ?_)
  refine WL.op rfl (opW.loadV rfl (hS.ldF (cs := Enc.enc x) (o := 3) (by repeat constructor) (Ask.ex_owner _) (by rw [Enc.size_eq]; decide)) ?_)
  refine WL.op rfl (opW.nilCheck rfl ((hS.sl (v := ov) (xs := out) (by repeat constructor)).isP ha) ?_)
  refine WL.op rfl (opW.fieldAddr rfl ((hS.sl (v := ov) (xs := out) (by repeat constructor)).isP ha) ?_)
  refine WL.op0 (opW.storeOwn (v := ov) (u := .agg (Enc.enc x.owner)) (sz := 32) (xs := out) (i := a) (off := 1) (y' := { out[a] with owner := x.owner }) hS (by repeat constructor) ha rfl rfl (Enc.size_eq x.owner) (by decide) (Enc.one x.owner) (Account.set_owner out[a] x.owner) ?_)
  intro w hS; replace hS := hS _ (by repeat constructor)
  refine WL.nil ?_
  refine thenQ_n (hK5 _ _ ?_)
  refine WC.seq (fun K6 hK6 => ?_)
  refine WC.region ?_
  refine WL.op rfl (opW.assignI rfl ?_)
  refine WL.nil ?_
  refine thenQ_n (hK6 _ _ ?_)
  refine WC.ret ?_
  refine bodyQ_ret (.tmpI rfl .nil) ?_
  have he : asE out[a] = 0 := by unfold asE; rw [if_neg (by rw [hr0]; decide)]
  rw [he]
  exact ⟨_, rfl, fun _ => rfl, hS.drop1.drop1⟩

theorem allocate_ok (wb w0 : World) (S : List Ent) (x : Ask) (pr : PairS) (ov : Value) (out : List Account) (a b : Nat) (ha : a < out.length) (hb : b < out.length) (h1 : Value.pointer pr.first = elemP ov a (Enc.sz Account)) (h2 : Value.pointer pr.second = elemP ov b (Enc.sz Account)) (hxw : x.coins < 18446744073709551616 ∧ x.space < 18446744073709551616) (hAw : okW out[a]) (hBw : okW out[b]) (hS0 : St wb (ownE ov 64 out :: S) w0) : Ret Tryd.prog 74 #[.agg (Enc.enc x), .agg (Enc.enc pr)] w0 (fun u w' => ∃ out' : List Account, u = .int .i64 (alE x out[a]) ∧ (alE x out[a] = 0 → out' = out.set a { out[a] with space := x.space }) ∧ St wb (ownE ov 64 out' :: S) w') := by
 refine Ret.enter (args := [.agg (Enc.enc x), .agg (Enc.enc pr)]) Tryd.func74 rfl Tryd.ntmps74 Tryd.results74 rfl ?_
 have hS := St.start w0
 replace hS := hS0
 refine WC.seq (fun K1 hK1 => ?_)
 refine WC.region ?_
 refine WL.op rfl (opW.boxA hS rfl ?_)
 intro b2 w _ hS
 refine WL.op rfl (opW.boxA hS rfl ?_)
 intro b3 w _ hS
 refine WL.op rfl (opW.assignI rfl ?_)
 refine WL.nil ?_
 refine thenQ_n (hK1 _ _ ?_)
 refine WC.seq (fun K2 hK2 => ?_)
 refine WC.block ?_
 refine WC.seq (fun K3 hK3 => ?_)
 refine WC.region ?_
 refine WL.op rfl (opW.fieldAddrB rfl ?_)
 refine WL.op rfl (opW.loadV rfl (hS.ld1 (by repeat constructor) ((PairS.at_first _).trans (congrArg some h1))) ?_)
 refine WL.op rfl (opW.nilCheck rfl ((hS.sl (v := ov) (xs := out) (by repeat constructor)).isP ha) ?_)
 refine WL.op rfl (opW.loadV rfl (((hS.sl (v := ov) (xs := out) (by repeat constructor)).isPt ha).ldA (Enc.size_eq out[a])) ?_)
 refine WL.op rfl (opW.call (plain_ok _ out[a]) rfl ?_)
 rintro _ w ⟨rfl, hw⟩; replace hS := hS.bel hw
 refine WL.op rfl (opW.not rfl ?_)
 refine WL.op rfl (opW.assignB rfl ?_)
 refine WL.nil ?_
 refine thenQ_n (hK3 _ _ ?_)
 refine WC.cond _ rfl (fun hc0 => ?_) (fun hc0 => ?_)
 ·
  have hr0 := hc0
  try simp only [sq1,sq2,sq3,sq4,sq5,sq6,sq7,sq8,sq9,sq0] at hc0
  refine WC.seq (fun K4 hK4 => ?_)
  refine WC.region ?_
  refine WL.op rfl (opW.assignI rfl ?_)
  refine WL.nil ?_
  refine thenQ_n (hK4 _ _ ?_)
  refine WC.ret ?_
  refine blockQ_r ?_
  refine thenQ_r ?_
  refine bodyQ_ret (.tmpI rfl .nil) ?_
  have he : alE x out[a] = 12 := by unfold alE; rw [if_pos hr0]
  rw [he]
  exact ⟨out, rfl, fun h => absurd h (by decide), hS.drop1.drop1⟩
 ·
  have hr0 := hc0
  try simp only [sq1,sq2,sq3,sq4,sq5,sq6,sq7,sq8,sq9,sq0] at hc0
  refine WC.seq (fun K5 hK5 => ?_)
  refine WC.region ?_
  refine WL.op rfl (opW.fieldAddrB rfl ?_)
  refine WL.op rfl (opW.loadV rfl (hS.ld1 (by repeat constructor) (Ask.at_space _)) ?_)
  refine WL.op rfl (opW.gtr rfl rfl ?_)
  refine WL.op rfl (opW.assignB rfl ?_)
  refine WL.nil ?_
  refine thenQ_n (hK5 _ _ ?_)
  refine WC.cond _ rfl (fun hc1 => ?_) (fun hc1 => ?_)
  ·
   have hr1 := hc1
   try simp only [sq1,sq2,sq3,sq4,sq5,sq6,sq7,sq8,sq9,sq0] at hc1
   refine WC.seq (fun K6 hK6 => ?_)
   refine WC.region ?_
   refine WL.op rfl (opW.assignI rfl ?_)
   refine WL.nil ?_
   refine thenQ_n (hK6 _ _ ?_)
   refine WC.ret ?_
   refine blockQ_r ?_
   refine thenQ_r ?_
   refine bodyQ_ret (.tmpI rfl .nil) ?_
   have he : alE x out[a] = 3 := by unfold alE; rw [if_neg (by rw [hr0]; decide), if_pos hc1]
   rw [he]
   exact ⟨out, rfl, fun h => absurd h (by decide), hS.drop1.drop1⟩
  ·
   have hr1 := hc1
   try simp only [sq1,sq2,sq3,sq4,sq5,sq6,sq7,sq8,sq9,sq0] at hc1
   refine WC.skip ?_
   refine blockQ_n ?_
   refine thenQ_n (hK2 _ _ ?_)
   refine WC.seq (fun K7 hK7 => ?_)
   refine WC.region ?_
   refine WL.op rfl (opW.fieldAddrB rfl ?_)
   refine WL.op rfl (opW.loadV rfl (hS.ld1 (by repeat constructor) ((PairS.at_first _).trans (congrArg some h1))) ?_)
   refine WL.op rfl (opW.fieldAddrB rfl ?_)
   refine WL.op rfl (opW.loadV rfl (hS.ld1 (by repeat constructor) (Ask.at_space _)) ?_)
   refine WL.op rfl (opW.nilCheck rfl ((hS.sl (v := ov) (xs := out) (by repeat constructor)).isP ha) ?_)
   refine WL.op rfl (opW.fieldAddr rfl ((hS.sl (v := ov) (xs := out) (by repeat constructor)).isP ha) ?_)
   refine WL.op0 (opW.storeOwn (v := ov) (u := .int .u64 ((x.space : Nat) : Int)) (sz := 1) (xs := out) (i := a) (off := 33) (y' := { out[a] with space := x.space }) hS (by repeat constructor) ha rfl rfl rfl (by decide) (one_int _ _) (Account.set_space out[a] (x.space)) ?_)
   intro w hS; replace hS := hS _ (by repeat constructor)
   refine WL.nil ?_
   refine thenQ_n (hK7 _ _ ?_)
   refine WC.seq (fun K8 hK8 => ?_)
   refine WC.region ?_
   refine WL.op rfl (opW.assignI rfl ?_)
   refine WL.nil ?_
   refine thenQ_n (hK8 _ _ ?_)
   refine WC.ret ?_
   refine bodyQ_ret (.tmpI rfl .nil) ?_
   have he : alE x out[a] = 0 := by unfold alE; rw [if_neg (by rw [hr0]; decide), if_neg (by omega)]
   rw [he]
   exact ⟨_, rfl, fun _ => rfl, hS.drop1.drop1⟩

theorem move_ok (wb w0 : World) (S : List Ent) (x : Ask) (pr : PairS) (ov : Value) (out : List Account) (a b : Nat) (ha : a < out.length) (hb : b < out.length) (h1 : Value.pointer pr.first = elemP ov a (Enc.sz Account)) (h2 : Value.pointer pr.second = elemP ov b (Enc.sz Account)) (hxw : x.coins < 18446744073709551616 ∧ x.space < 18446744073709551616) (hAw : okW out[a]) (hBw : okW out[b]) (hS0 : St wb (ownE ov 64 out :: S) w0) : Ret Tryd.prog 73 #[.agg (Enc.enc x), .agg (Enc.enc pr)] w0 (fun u w' => ∃ out' : List Account, u = .int .i64 (mvE x out[a] out[b] (decide (a = b))) ∧ (mvE x out[a] out[b] (decide (a = b)) = 0 → out' = mvL x out a b out[a] out[b]) ∧ St wb (ownE ov 64 out' :: S) w') := by
 refine Ret.enter (args := [.agg (Enc.enc x), .agg (Enc.enc pr)]) Tryd.func73 rfl Tryd.ntmps73 Tryd.results73 rfl ?_
 have hS := St.start w0
 replace hS := hS0
 obtain ⟨g, n, c, hg⟩ : ∃ g n c, ov = .slice (some ⟨g, 0, none⟩) n c := by
  have ho := hS.own (v := ov) (xs := out) .here
  rcases ho with ⟨_, rfl⟩ | ⟨g, cap, cur, h, _⟩
  ·simp at ha
  ·exact ⟨g, _, cap, h⟩
 refine WC.seq (fun K1 hK1 => ?_)
 refine WC.region ?_
 refine WL.op rfl (opW.boxA hS rfl ?_)
 intro b2 w _ hS
 refine WL.op rfl (opW.boxA hS rfl ?_)
 intro b3 w _ hS
 refine WL.op rfl (opW.assignI rfl ?_)
 refine WL.nil ?_
 refine thenQ_n (hK1 _ _ ?_)
 refine WC.seq (fun K2 hK2 => ?_)
 refine WC.block ?_
 refine WC.seq (fun K3 hK3 => ?_)
 refine WC.region ?_
 refine WL.op rfl (opW.fieldAddrB rfl ?_)
 refine WL.op rfl (opW.loadV rfl (hS.ld1 (by repeat constructor) ((PairS.at_first _).trans (congrArg some h1))) ?_)
 refine WL.op rfl (opW.nilCheck rfl ((hS.sl (v := ov) (xs := out) (by repeat constructor)).isP ha) ?_)
 refine WL.op rfl (opW.loadV rfl (((hS.sl (v := ov) (xs := out) (by repeat constructor)).isPt ha).ldA (Enc.size_eq out[a])) ?_)
 refine WL.op rfl (opW.call (plain_ok _ out[a]) rfl ?_)
 rintro _ w ⟨rfl, hw⟩; replace hS := hS.bel hw
 refine WL.op rfl (opW.not rfl ?_)
 refine WL.op rfl (opW.assignB rfl ?_)
 refine WL.nil ?_
 refine thenQ_n (hK3 _ _ ?_)
 refine WC.cond _ rfl (fun hc0 => ?_) (fun hc0 => ?_)
 ·
  have hr0 := hc0
  try simp only [sq1,sq2,sq3,sq4,sq5,sq6,sq7,sq8,sq9,sq0] at hc0
  refine WC.seq (fun K4 hK4 => ?_)
  refine WC.region ?_
  refine WL.op rfl (opW.assignI rfl ?_)
  refine WL.nil ?_
  refine thenQ_n (hK4 _ _ ?_)
  refine WC.ret ?_
  refine blockQ_r ?_
  refine thenQ_r ?_
  refine bodyQ_ret (.tmpI rfl .nil) ?_
  have he : mvE x out[a] out[b] (decide (a = b)) = 16 := by unfold mvE; rw [if_pos hr0]
  rw [he]
  exact ⟨out, rfl, fun h => absurd h (by decide), hS.drop1.drop1⟩
 ·
  have hr0 := hc0
  try simp only [sq1,sq2,sq3,sq4,sq5,sq6,sq7,sq8,sq9,sq0] at hc0
  refine WC.seq (fun K5 hK5 => ?_)
  refine WC.draw 9 (.look 0 (.look 1 (.look 2 (.look 3 (.look 4 (.look 5 (.look 6 (.look 7 (.look 8 .nil))))))))) (by kernel_rfl) (fun _ _ _ h => h) (fun w1 hw1 => ?_)
  replace hS := hS.bel hw1
  have hS1 := hS
  have hT := St.start w1
  refine ML.look rfl rfl rfl (fun w hw => (by have hS := hS1.bel hw; exact opW.fieldAddrB rfl ⟨rfl, rfl⟩)) ?_
  refine ML.look rfl rfl rfl (fun w hw => (by have hS := hS1.bel hw; exact opW.loadV rfl (hS.ld1 (by repeat constructor) ((PairS.at_first _).trans (congrArg some h1))) ⟨rfl, rfl⟩)) ?_
  refine ML.look rfl rfl rfl (fun w hw => (by have hS := hS1.bel hw; exact opW.nilCheck rfl ((hS.sl (v := ov) (xs := out) (by repeat constructor)).isP ha) ⟨rfl, rfl⟩)) ?_
  refine ML.look rfl rfl rfl (fun w hw => (by have hS := hS1.bel hw; exact opW.fieldAddr rfl ((hS.sl (v := ov) (xs := out) (by repeat constructor)).isP ha) ⟨rfl, rfl⟩)) ?_
  refine ML.look rfl rfl rfl (fun w hw => (by have hS := hS1.bel hw; exact opW.loadV rfl (Ld.pt1 ((hS.sl (v := ov) (xs := out) (by repeat constructor)).isPt ha) 0 (Account.at_coins _)) ⟨rfl, rfl⟩)) ?_
  refine ML.look rfl rfl rfl (fun w hw => (by have hS := hS1.bel hw; exact opW.fieldAddrB rfl ⟨rfl, rfl⟩)) ?_
  refine ML.look rfl rfl rfl (fun w hw => (by have hS := hS1.bel hw; exact opW.loadV rfl (hS.ld1 (by repeat constructor) (Ask.at_coins _)) ⟨rfl, rfl⟩)) ?_
  refine ML.look rfl rfl rfl (fun w hw => (by have hS := hS1.bel hw; exact opW.lss rfl rfl ⟨rfl, rfl⟩)) ?_
  refine ML.look rfl rfl rfl (fun w hw => (by have hS := hS1.bel hw; exact opW.assignB rfl ⟨rfl, rfl⟩)) ?_
  refine ML.nil ?_
  refine thenQ_n (hK5 _ _ ?_)
  refine WC.cond _ rfl (fun hc1 => ?_) (fun hc1 => ?_)
  ·
   have hr1 := hc1
   try simp only [sq1,sq2,sq3,sq4,sq5,sq6,sq7,sq8,sq9,sq0] at hc1
   refine WC.seq (fun K6 hK6 => ?_)
   refine WC.region ?_
   refine WL.op rfl (opW.assignI rfl ?_)
   refine WL.nil ?_
   refine thenQ_n (hK6 _ _ ?_)
   refine WC.ret ?_
   refine blockQ_r ?_
   refine thenQ_r ?_
   refine bodyQ_ret (.tmpI rfl .nil) ?_
   have he : mvE x out[a] out[b] (decide (a = b)) = 17 := by unfold mvE; rw [if_neg (by rw [hr0]; decide), if_pos hc1]
   rw [he]
   exact ⟨out, rfl, fun h => absurd h (by decide), hS.drop1.drop1⟩
  ·
   have hr1 := hc1
   try simp only [sq1,sq2,sq3,sq4,sq5,sq6,sq7,sq8,sq9,sq0] at hc1
   refine WC.seq (fun K7 hK7 => ?_)
   refine WC.region ?_
   refine WL.op rfl (opW.fieldAddrB rfl ?_)
   refine WL.op rfl (opW.loadV rfl (hS.ld1 (by repeat constructor) ((PairS.at_first _).trans (congrArg some h1))) ?_)
   refine WL.op rfl (opW.fieldAddrB rfl ?_)
   refine WL.op rfl (opW.loadV rfl (hS.ld1 (by repeat constructor) ((PairS.at_second _).trans (congrArg some h2))) ?_)
   refine WL.op rfl (opW.eqlPP (n := 33) (b := g) (o := 0 + a * 34) (o2 := 0 + b * 34) (by rw [hg]; rfl) (by rw [hg]; rfl) ?_)
   rw [show decide (0 + a * 34 = 0 + b * 34) = decide (a = b) from by rw [Bool.eq_iff_iff]; simp only [decide_eq_true_eq]; omega]
   refine WL.op rfl (opW.assignB rfl ?_)
   refine WL.nil ?_
   refine thenQ_n (hK7 _ _ ?_)
   refine WC.cond _ rfl (fun hc2 => ?_) (fun hc2 => ?_)
   ·
    have hr2 := hc2
    try simp only [sq1,sq2,sq3,sq4,sq5,sq6,sq7,sq8,sq9,sq0] at hc2
    refine WC.seq (fun K8 hK8 => ?_)
    refine WC.region ?_
    refine WL.op rfl (opW.assignI rfl ?_)
    refine WL.nil ?_
    refine thenQ_n (hK8 _ _ ?_)
    refine WC.ret ?_
    refine blockQ_r ?_
    refine thenQ_r ?_
    refine bodyQ_ret (.tmpI rfl .nil) ?_
    have hab : a = b := of_decide_eq_true hr2
    have he : mvE x out[a] out[b] (decide (a = b)) = 0 := by unfold mvE; rw [if_neg (by rw [hr0]; decide), if_neg (by omega), if_pos hr2]
    rw [he]
    exact ⟨out, rfl, fun _ => by unfold mvL; rw [if_pos hab], hS.drop1.drop1⟩
   ·
    have hr2 := hc2
    try simp only [sq1,sq2,sq3,sq4,sq5,sq6,sq7,sq8,sq9,sq0] at hc2
    have hab : a ≠ b := of_decide_eq_false hr2
    refine WC.seq (fun K9 hK9 => ?_)
    refine WC.draw 10 (.look 0 (.look 1 (.look 2 (.look 3 (.look 4 (.look 5 (.look 6 (.look 7 (.look 8 (.look 9 .nil)))))))))) (by kernel_rfl) (fun _ _ _ h => h) (fun w1 hw1 => ?_)
    replace hS := hS.bel hw1
    have hS1 := hS
    have hT := St.start w1
    refine ML.look rfl rfl rfl (fun w hw => (by have hS := hS1.bel hw; exact opW.fieldAddrB rfl ⟨rfl, rfl⟩)) ?_
    refine ML.look rfl rfl rfl (fun w hw => (by have hS := hS1.bel hw; exact opW.loadV rfl (hS.ld1 (by repeat constructor) ((PairS.at_second _).trans (congrArg some h2))) ⟨rfl, rfl⟩)) ?_
    refine ML.look rfl rfl rfl (fun w hw => (by have hS := hS1.bel hw; exact opW.nilCheck rfl ((hS.sl (v := ov) (xs := out) (by repeat constructor)).isP hb) ⟨rfl, rfl⟩)) ?_
    refine ML.look rfl rfl rfl (fun w hw => (by have hS := hS1.bel hw; exact opW.fieldAddr rfl ((hS.sl (v := ov) (xs := out) (by repeat constructor)).isP hb) ⟨rfl, rfl⟩)) ?_
    refine ML.look rfl rfl rfl (fun w hw => (by have hS := hS1.bel hw; exact opW.loadV rfl (Ld.pt1 ((hS.sl (v := ov) (xs := out) (by repeat constructor)).isPt hb) 0 (Account.at_coins _)) ⟨rfl, rfl⟩)) ?_
    refine ML.look rfl rfl rfl (fun w hw => (by have hS := hS1.bel hw; exact opW.fieldAddrB rfl ⟨rfl, rfl⟩)) ?_
    refine ML.look rfl rfl rfl (fun w hw => (by have hS := hS1.bel hw; exact opW.loadV rfl (hS.ld1 (by repeat constructor) (Ask.at_coins _)) ⟨rfl, rfl⟩)) ?_
    refine ML.look rfl rfl rfl (fun w hw => (by have hS := hS1.bel hw; exact opW.sub rfl rfl (sub_max _ hxw.1) ⟨rfl, rfl⟩)) ?_
    refine ML.look rfl rfl rfl (fun w hw => (by have hS := hS1.bel hw; exact opW.gtr rfl rfl ⟨rfl, rfl⟩)) ?_
    refine ML.look rfl rfl rfl (fun w hw => (by have hS := hS1.bel hw; exact opW.assignB rfl ⟨rfl, rfl⟩)) ?_
    refine ML.nil ?_
    refine thenQ_n (hK9 _ _ ?_)
    refine WC.cond _ rfl (fun hc3 => ?_) (fun hc3 => ?_)
    ·
     have hr3 := hc3
     try simp only [sq1,sq2,sq3,sq4,sq5,sq6,sq7,sq8,sq9,sq0] at hc3
     refine WC.seq (fun K10 hK10 => ?_)
     refine WC.region ?_
     refine WL.op rfl (opW.assignI rfl ?_)
     refine WL.nil ?_
     refine thenQ_n (hK10 _ _ ?_)
     refine WC.ret ?_
     refine blockQ_r ?_
     refine thenQ_r ?_
     refine bodyQ_ret (.tmpI rfl .nil) ?_
     have he : mvE x out[a] out[b] (decide (a = b)) = 18 := by unfold mvE; rw [if_neg (by rw [hr0]; decide), if_neg (by omega), if_neg (by rw [hr2]; decide), if_pos hc3]
     rw [he]
     exact ⟨out, rfl, fun h => absurd h (by decide), hS.drop1.drop1⟩
    ·
     have hr3 := hc3
     try simp only [sq1,sq2,sq3,sq4,sq5,sq6,sq7,sq8,sq9,sq0] at hc3
     refine WC.skip ?_
     refine blockQ_n ?_
     refine thenQ_n (hK2 _ _ ?_)
     refine WC.seq (fun K11 hK11 => ?_)
     refine WC.draw 10 (.look 0 (.look 1 (.look 2 (.look 3 (.look 4 (.look 5 (.look 6 (.look 7 (.look 8 (.look 9 (.one 10 .nil))))))))))) (by kernel_rfl) (fun _ _ _ h => h) (fun w1 hw1 => ?_)
     replace hS := hS.bel hw1
     have hS1 := hS
     have hT := St.start w1
     refine ML.look rfl rfl rfl (fun w hw => (by have hS := hS1.bel hw; exact opW.fieldAddrB rfl ⟨rfl, rfl⟩)) ?_
     refine ML.look rfl rfl rfl (fun w hw => (by have hS := hS1.bel hw; exact opW.loadV rfl (hS.ld1 (by repeat constructor) ((PairS.at_first _).trans (congrArg some h1))) ⟨rfl, rfl⟩)) ?_
     refine ML.look rfl rfl rfl (fun w hw => (by have hS := hS1.bel hw; exact opW.nilCheck rfl ((hS.sl (v := ov) (xs := out) (by repeat constructor)).isP ha) ⟨rfl, rfl⟩)) ?_
     refine ML.look rfl rfl rfl (fun w hw => (by have hS := hS1.bel hw; exact opW.fieldAddr rfl ((hS.sl (v := ov) (xs := out) (by repeat constructor)).isP ha) ⟨rfl, rfl⟩)) ?_
     refine ML.look rfl rfl rfl (fun w hw => (by have hS := hS1.bel hw; exact opW.loadV rfl (Ld.pt1 ((hS.sl (v := ov) (xs := out) (by repeat constructor)).isPt ha) 0 (Account.at_coins _)) ⟨rfl, rfl⟩)) ?_
     refine ML.look rfl rfl rfl (fun w hw => (by have hS := hS1.bel hw; exact opW.fieldAddrB rfl ⟨rfl, rfl⟩)) ?_
     refine ML.look rfl rfl rfl (fun w hw => (by have hS := hS1.bel hw; exact opW.loadV rfl (hS.ld1 (by repeat constructor) (Ask.at_coins _)) ⟨rfl, rfl⟩)) ?_
     refine ML.look rfl rfl rfl (fun w hw => (by have hS := hS1.bel hw; exact opW.sub rfl rfl (nsub (by omega) hAw.1) ⟨rfl, rfl⟩)) ?_
     refine ML.look rfl rfl rfl (fun w hw => (by have hS := hS1.bel hw; exact opW.nilCheck rfl ((hS.sl (v := ov) (xs := out) (by repeat constructor)).isP ha) ⟨rfl, rfl⟩)) ?_
     refine ML.look rfl rfl rfl (fun w hw => (by have hS := hS1.bel hw; exact opW.fieldAddr rfl ((hS.sl (v := ov) (xs := out) (by repeat constructor)).isP ha) ⟨rfl, rfl⟩)) ?_
     refine ML.put0 rfl rfl rfl (opW.storeOwn (v := ov) (u := .int .u64 ((out[a].coins - x.coins : Nat) : Int)) (sz := 1) (xs := out) (i := a) (off := 0) (y' := { out[a] with coins := out[a].coins - x.coins }) hS (by repeat constructor) ha rfl rfl rfl (by decide) (one_int _ _) (Account.set_coins out[a] (out[a].coins - x.coins)) ?_)
     intro w hS; replace hS := hS _ (by repeat constructor)
     refine ML.nil ?_
     refine thenQ_n (hK11 _ _ ?_)
     refine WC.seq (fun K12 hK12 => ?_)
     refine WC.draw 10 (.look 0 (.look 1 (.look 2 (.look 3 (.look 4 (.look 5 (.look 6 (.look 7 (.look 8 (.look 9 (.one 10 .nil))))))))))) (by kernel_rfl) (fun _ _ _ h => h) (fun w1 hw1 => ?_)
     replace hS := hS.bel hw1
     have hS1 := hS
     have hT := St.start w1
     have hb2 : b < (out.set a { out[a] with coins := out[a].coins - x.coins }).length := by simpa using hb
     have hgb : (out.set a { out[a] with coins := out[a].coins - x.coins })[b] = out[b] := by rw [List.getElem_set_ne hab]
     refine ML.look rfl rfl rfl (fun w hw => (by have hS := hS1.bel hw; exact opW.fieldAddrB rfl ⟨rfl, rfl⟩)) ?_
     refine ML.look rfl rfl rfl (fun w hw => (by have hS := hS1.bel hw; exact opW.loadV rfl (hS.ld1 (by repeat constructor) ((PairS.at_second _).trans (congrArg some h2))) ⟨rfl, rfl⟩)) ?_
     refine ML.look rfl rfl rfl (fun w hw => (by have hS := hS1.bel hw; exact opW.nilCheck rfl ((hS.sl (v := ov) (xs := (out.set a { out[a] with coins := out[a].coins - x.coins })) (by repeat constructor)).isP hb2) ⟨rfl, rfl⟩)) ?_
     refine ML.look rfl rfl rfl (fun w hw => (by have hS := hS1.bel hw; exact opW.fieldAddr rfl ((hS.sl (v := ov) (xs := (out.set a { out[a] with coins := out[a].coins - x.coins })) (by repeat constructor)).isP hb2) ⟨rfl, rfl⟩)) ?_
     refine ML.look rfl rfl rfl (fun w hw => (by have hS := hS1.bel hw; exact opW.loadV rfl (Ld.pt1 ((hS.sl (v := ov) (xs := (out.set a { out[a] with coins := out[a].coins - x.coins })) (by repeat constructor)).isPt hb2) 0 (by rw [hgb]; exact Account.at_coins _)) ⟨rfl, rfl⟩)) ?_
     refine ML.look rfl rfl rfl (fun w hw => (by have hS := hS1.bel hw; exact opW.fieldAddrB rfl ⟨rfl, rfl⟩)) ?_
     refine ML.look rfl rfl rfl (fun w hw => (by have hS := hS1.bel hw; exact opW.loadV rfl (hS.ld1 (by repeat constructor) (Ask.at_coins _)) ⟨rfl, rfl⟩)) ?_
     refine ML.look rfl rfl rfl (fun w hw => (by have hS := hS1.bel hw; exact opW.add rfl rfl (nadd (by omega)) ⟨rfl, rfl⟩)) ?_
     refine ML.look rfl rfl rfl (fun w hw => (by have hS := hS1.bel hw; exact opW.nilCheck rfl ((hS.sl (v := ov) (xs := (out.set a { out[a] with coins := out[a].coins - x.coins })) (by repeat constructor)).isP hb2) ⟨rfl, rfl⟩)) ?_
     refine ML.look rfl rfl rfl (fun w hw => (by have hS := hS1.bel hw; exact opW.fieldAddr rfl ((hS.sl (v := ov) (xs := (out.set a { out[a] with coins := out[a].coins - x.coins })) (by repeat constructor)).isP hb2) ⟨rfl, rfl⟩)) ?_
     refine ML.put0 rfl rfl rfl (opW.storeOwn (v := ov) (u := .int .u64 ((out[b].coins + x.coins : Nat) : Int)) (sz := 1) (xs := (out.set a { out[a] with coins := out[a].coins - x.coins })) (i := b) (off := 0) (y' := { out[b] with coins := out[b].coins + x.coins }) hS (by repeat constructor) hb2 rfl rfl rfl (by decide) (one_int _ _) (by rw [hgb]; exact Account.set_coins out[b] (out[b].coins + x.coins)) ?_)
     intro w hS; replace hS := hS _ (by repeat constructor)
     refine ML.nil ?_
     refine thenQ_n (hK12 _ _ ?_)
     refine WC.seq (fun K13 hK13 => ?_)
     refine WC.region ?_
     refine WL.op rfl (opW.assignI rfl ?_)
     refine WL.nil ?_
     refine thenQ_n (hK13 _ _ ?_)
     refine WC.ret ?_
     refine bodyQ_ret (.tmpI rfl .nil) ?_
     have he : mvE x out[a] out[b] (decide (a = b)) = 0 := by unfold mvE; rw [if_neg (by rw [hr0]; decide), if_neg (by omega), if_neg (by rw [hr2]; decide), if_neg (by omega)]
     rw [he]
     exact ⟨_, rfl, fun _ => by unfold mvL; rw [if_neg hab], hS.drop1.drop1⟩

def fz : Value := .nilFunc
def doesK : List (U64 × Value) := [(⟨0⟩, .func (.func 71) #[] #[]), (⟨1⟩, .func (.func 72) #[] #[]), (⟨2⟩, .func (.func 73) #[] #[]), (⟨8⟩, .func (.func 74) #[] #[])]
def idV (v : Value) : Value := v
theorem doesK_eq : aput (⟨8⟩ : U64) (Value.func (.func 74) #[] #[]) (aput ⟨2⟩ (.func (.func 73) #[] #[]) (aput ⟨1⟩ (.func (.func 72) #[] #[]) (aput ⟨0⟩ (.func (.func 71) #[] #[]) []))) = doesK := rfl
def actE (x : Ask) (A B : Account) (same : Bool) : Int := if x.tag = 0 then mkE x A B else if x.tag = 1 then asE A else if x.tag = 2 then mvE x A B same else alE x A
def actL (x : Ask) (l : List Account) (a b : Nat) (A B : Account) : List Account := if x.tag = 0 then mkL x l a b A else if x.tag = 1 then l.set a { A with owner := x.owner } else if x.tag = 2 then mvL x l a b A B else l.set a { A with space := x.space }
theorem does_call (wb w : World) (S : List Ent) (x : Ask) (pr : PairS) (ov : Value) (out : List Account) (a b : Nat) (ha : a < out.length) (hb : b < out.length) (h1 : Value.pointer pr.first = elemP ov a (Enc.sz Account)) (h2 : Value.pointer pr.second = elemP ov b (Enc.sz Account)) (hxw : x.coins < 18446744073709551616 ∧ x.space < 18446744073709551616) (hAw : okW out[a]) (hBw : okW out[b]) (hS : St wb (ownE ov 64 out :: S) w)
  (ht : x.tag = 0 ∨ x.tag = 1 ∨ x.tag = 2 ∨ x.tag = 8) {u : Value} (hu : (aget (⟨x.tag⟩ : U64) doesK).getD fz = u) :
  FnV Tryd.prog u [.agg (Enc.enc x), .agg (Enc.enc pr)] w (fun r w' => ∃ out' : List Account, r = .int .i64 (actE x out[a] out[b] (decide (a = b))) ∧ (actE x out[a] out[b] (decide (a = b)) = 0 → out' = actL x out a b out[a] out[b]) ∧ St wb (ownE ov 64 out' :: S) w') := by
 subst hu
 rcases ht with h | h | h | h
 ·rw [show actE x out[a] out[b] (decide (a = b)) = mkE x out[a] out[b] from if_pos h, show actL x out a b out[a] out[b] = mkL x out a b out[a] from if_pos h, h]
  exact ⟨_, [], [], rfl, inferInstance, make_ok wb w S x pr ov out a b ha hb h1 h2 hxw hAw hBw hS⟩
 ·rw [show actE x out[a] out[b] (decide (a = b)) = asE out[a] from by unfold actE; rw [if_neg (by omega), if_pos h], show actL x out a b out[a] out[b] = out.set a { out[a] with owner := x.owner } from by unfold actL; rw [if_neg (by omega), if_pos h], h]
  exact ⟨_, [], [], rfl, inferInstance, assign_ok wb w S x pr ov out a b ha hb h1 h2 hxw hAw hBw hS⟩
 ·rw [show actE x out[a] out[b] (decide (a = b)) = mvE x out[a] out[b] (decide (a = b)) from by unfold actE; rw [if_neg (by omega), if_neg (by omega), if_pos h], show actL x out a b out[a] out[b] = mvL x out a b out[a] out[b] from by unfold actL; rw [if_neg (by omega), if_neg (by omega), if_pos h], h]
  exact ⟨_, [], [], rfl, inferInstance, move_ok wb w S x pr ov out a b ha hb h1 h2 hxw hAw hBw hS⟩
 ·rw [show actE x out[a] out[b] (decide (a = b)) = alE x out[a] from by unfold actE; rw [if_neg (by omega), if_neg (by omega), if_neg (by omega)], show actL x out a b out[a] out[b] = out.set a { out[a] with space := x.space } from by unfold actL; rw [if_neg (by omega), if_neg (by omega), if_neg (by omega)], h]
  exact ⟨_, [], [], rfl, inferInstance, allocate_ok wb w S x pr ov out a b ha hb h1 h2 hxw hAw hBw hS⟩
def doF (l : List Account) (r : List Role) (ats dt : List UInt8) : Int × Nat × List Account :=
 if l.length ≠ r.length then (1, 0, []) else
 match askF dt with
 | none => (13, 0, [])
 | some x =>
  if takF x.tag r ats ≠ 0 then (takF x.tag r ats, 0, []) else
  let a := (ats.getD 0 0).toNat
  let b := (ats.getD (need x.tag - 1) 0).toNat
  if actE x (l.getD a az) (l.getD b az) (decide (a = b)) ≠ 0 then (actE x (l.getD a az) (l.getD b az) (decide (a = b)), 0, []) else (0, x.space, actL x l a b (l.getD a az) (l.getD b az))
theorem doF_len {l : List Account} {r : List Role} {ats dt : List UInt8} (h : l.length ≠ r.length) : doF l r ats dt = (1, 0, []) := by unfold doF; rw [if_pos h]
theorem doF_none {l : List Account} {r : List Role} {ats dt : List UInt8} (h : l.length = r.length) (hn : askF dt = none) : doF l r ats dt = (13, 0, []) := by unfold doF; rw [if_neg (fun e => e h), hn]
theorem doF_tak {l : List Account} {r : List Role} {ats dt : List UInt8} {x : Ask} (h : l.length = r.length) (hx : askF dt = some x) (ht : takF x.tag r ats ≠ 0) : doF l r ats dt = (takF x.tag r ats, 0, []) := by unfold doF; rw [if_neg (fun e => e h), hx]; simp only; rw [if_pos ht]
theorem getD_of {α : Type} {l : List α} {i : Nat} (h : i < l.length) (d : α) : l.getD i d = l[i] := by simp [List.getD_eq_getElem?_getD, h]
theorem doF_act {l : List Account} {r : List Role} {ats dt : List UInt8} {x : Ask} {j : Nat} (h : l.length = r.length) (hx : askF dt = some x) (ht : takF x.tag r ats = 0) (h0 : 0 < ats.length) (hj : j < ats.length) (hje : need x.tag - 1 = j) (ha : ats[0].toNat < l.length) (hb : ats[j].toNat < l.length) :
  doF l r ats dt = if actE x l[ats[0].toNat] l[ats[j].toNat] (decide (ats[0].toNat = ats[j].toNat)) ≠ 0 then (actE x l[ats[0].toNat] l[ats[j].toNat] (decide (ats[0].toNat = ats[j].toNat)), 0, []) else (0, x.space, actL x l ats[0].toNat ats[j].toNat l[ats[0].toNat] l[ats[j].toNat]) := by
 unfold doF; rw [if_neg (fun e => e h), hx]; simp only; rw [if_neg (fun e => e ht), hje, getD_of h0, getD_of hj, getD_of ha, getD_of hb]
theorem askF_ok {b : List UInt8} {x : Ask} (h : askF b = some x) : (x.tag = 0 ∨ x.tag = 1 ∨ x.tag = 2 ∨ x.tag = 8) ∧ x.coins < 18446744073709551616 ∧ x.space < 18446744073709551616 := by
 unfold askF at h
 split at h
 ·cases h
 ·simp only at h
  have g1 := leN_lt64 (b.drop 4) (m := 8) (Nat.le_refl _)
  have g2 := leN_lt64 ((b.drop 4).drop 8) (m := 8) (Nat.le_refl _)
  split at h
  ·cases h; exact ⟨.inl rfl, g1, g2⟩
  split at h
  ·cases h; exact ⟨.inr (.inl rfl), (by omega : (0 : Nat) < 18446744073709551616), (by omega : (0 : Nat) < 18446744073709551616)⟩
  split at h
  ·cases h; exact ⟨.inr (.inr (.inl rfl)), g1, (by omega : (0 : Nat) < 18446744073709551616)⟩
  split at h
  ·cases h; exact ⟨.inr (.inr (.inr rfl)), (by omega : (0 : Nat) < 18446744073709551616), g1⟩
  ·cases h
theorem takF_ok {t : Nat} {r : List Role} {ats : List UInt8} (h : takF t r ats = 0) : need t ≤ ats.length ∧ lacks r.length ats = false := by
 unfold takF at h
 split at h
 ·cases h
 ·rename_i hn
  rw [Bool.not_eq_true, Bool.or_eq_false_iff] at hn
  simp only [decide_eq_false_iff_not] at hn
  exact ⟨by omega, hn.2⟩
theorem St.cutOwn {α : Type} [Enc α] {w0 w : World} {S S' : List Ent} {v : Value} {T : TypeId} {xs : List α} (hS : St w0 S w) (hT : Turn (ownE v T xs) (ownE (cutV v 0 xs.length xs.length (Enc.sz α)) T xs) S S') : St w0 S' w := by
 have h0 : New w0 w v T xs := hS.own_new hT.has
 have h1 := New.cut (w := w0) (w' := w) (v := v) (e := T) (xs := xs) h0
 refine St.turn ⟨rfl, rfl, rfl, Nat.le_refl _, fun _ _ _ => rfl⟩ (by rw [ownE_A]; exact h1.1) ?_ hS hT
 rw [ownE_F, ownE_F]
 intro k hk
 refine .inl ?_
 rcases h0.1 with ⟨rfl, rfl⟩ | ⟨g, cap, cur, rfl, _⟩
 ·simp [cutV, Value.ownBlock] at hk
 ·by_cases hl : xs.length = 0 <;> simp [cutV, Value.ownBlock, hl] at hk ⊢ <;> exact hk

theorem does_ok (w0 : World) : Ret Tryd.prog 67 #[] w0 (fun u w' => NewM w0 w' u idV doesK ∧ Bel w0 w') := by
 refine Ret.enter (args := []) Tryd.func67 rfl Tryd.ntmps67 Tryd.results67 rfl ?_
 have hS := St.start w0
 refine WC.seq (fun K1 hK1 => ?_)
 refine WC.region ?_
 refine WL.op rfl (opW.assignV rfl ?_)
 refine WL.nil ?_
 refine thenQ_n (hK1 _ _ ?_)
 refine WC.seq (fun K2 hK2 => ?_)
 refine WC.region ?_
 refine WL.op rfl (opW.makeMap U64 (idV : Value → Value) hS ?_)
 intro r1 w _ hS
 refine WL.op0 (opW.insert (κ := U64) (ν := Value) (k := ⟨0⟩) (v := .func (.func 71) #[] #[]) (vv := idV) (kvs := []) hS (by repeat constructor) rfl rfl rfl ?_)
 intro w hS; replace hS := hS _ (by repeat constructor)
 refine WL.op0 (opW.insert (κ := U64) (ν := Value) (k := ⟨1⟩) (v := .func (.func 72) #[] #[]) (vv := idV) (kvs := aput (⟨0⟩ : U64) (.func (.func 71) #[] #[]) []) hS (by repeat constructor) rfl rfl rfl ?_)
 intro w hS; replace hS := hS _ (by repeat constructor)
 refine WL.op0 (opW.insert (κ := U64) (ν := Value) (k := ⟨2⟩) (v := .func (.func 73) #[] #[]) (vv := idV) (kvs := aput (⟨1⟩ : U64) (.func (.func 72) #[] #[]) (aput (⟨0⟩ : U64) (.func (.func 71) #[] #[]) [])) hS (by repeat constructor) rfl rfl rfl ?_)
 intro w hS; replace hS := hS _ (by repeat constructor)
 refine WL.op0 (opW.insert (κ := U64) (ν := Value) (k := ⟨8⟩) (v := .func (.func 74) #[] #[]) (vv := idV) (kvs := aput (⟨2⟩ : U64) (.func (.func 73) #[] #[]) (aput (⟨1⟩ : U64) (.func (.func 72) #[] #[]) (aput (⟨0⟩ : U64) (.func (.func 71) #[] #[]) []))) hS (by repeat constructor) rfl rfl rfl ?_)
 intro w hS; replace hS := hS _ (by repeat constructor)
 rw [doesK_eq] at hS
 refine WL.op rfl (opW.moveV (v := .map (some r1)) rfl ?_)
 refine WL.op rfl (opW.assignV (v := .map (some r1)) rfl ?_)
 refine WL.nil ?_
 refine thenQ_n (hK2 _ _ ?_)
 refine WC.ret ?_
 refine bodyQ_ret (.tmpV (v := .map (some r1)) rfl .nil) ?_
 exact ⟨hS.map_new .here, hS.old⟩

theorem clone_a (w0 : World) (v : Value) (xs : List Account) (hx : SlR w0 v xs) (hl : xs.length ≤ 100000) : Ret Tryd.prog 41 #[v] w0 (fun u w' => New w0 w' u 64 xs ∧ Bel w0 w') := by
 refine Ret.enter (args := [v]) Tryd.func41 rfl Tryd.ntmps41 Tryd.results41 rfl ?_
 have hS := St.start w0
 obtain ⟨a, c, rfl⟩ := hx.eq
 refine WC.seq (fun K1 hK1 => ?_)
 refine WC.region ?_
 refine WL.op rfl (opW.assignV (v := .slice none 0 0) rfl ?_)
 refine WL.nil ?_
 refine thenQ_n (hK1 _ _ ?_)
 refine WC.seq (fun K2 hK2 => ?_)
 refine WC.seq (fun K3 hK3 => ?_)
 refine WC.region ?_
 refine WL.op rfl (opW.moveV (v := .slice a xs.length c) rfl ?_)
 refine WL.op rfl (opW.eqlNil rfl rfl ?_)
 refine WL.nil ?_
 refine thenQ_n (hK3 _ _ ?_)
 refine WC.cond _ rfl (fun hc0 => ?_) (fun hc0 => ?_)
 ·
  have hr0 := hc0
  try simp only [sq1,sq2,sq3,sq4,sq5,sq6,sq7,sq8,sq9,sq0] at hc0
  refine WC.seq (fun K4 hK4 => ?_)
  refine WC.region ?_
  refine WL.op rfl (opW.assignV (v := .slice none 0 0) rfl ?_)
  refine WL.nil ?_
  refine thenQ_n (hK4 _ _ ?_)
  refine WC.ret ?_
  refine thenQ_r ?_
  refine bodyQ_ret (.tmpV (v := .slice none 0 0) rfl .nil) ?_
  cases a with
  | none =>
   obtain ⟨rfl, _, _⟩ := hx.none_nil
   exact ⟨New.nil _ _ _, hS.old⟩
  | some a => cases hc0
 ·
  have hr0 := hc0
  try simp only [sq1,sq2,sq3,sq4,sq5,sq6,sq7,sq8,sq9,sq0] at hc0
  refine WC.skip ?_
  refine thenQ_n (hK2 _ _ ?_)
  refine WC.seq (fun K5 hK5 => ?_)
  refine WC.region ?_
  refine WL.op rfl (opW.buildSl hS ([] : List Account) [] rfl rfl rfl rfl (by simp) ?_)
  intro b5 w _ hS
  refine WL.op rfl (opW.moveV (v := .slice a xs.length c) rfl ?_)
  refine WL.op rfl (opW.appendOwn (α := Account) rfl hS rfl (by repeat constructor) ((hx.bel hS.old)) (by (try simp only [List.length_append, List.length_cons, List.length_nil, List.length_map]); omega) (by simp only [maxLen]; (try simp only [List.length_append, List.length_cons, List.length_nil, List.length_map]); omega) ?_)
  intro v7 w hS; replace hS := hS _ (by repeat constructor)
  refine WL.op rfl (opW.assignV (v := v7) rfl ?_)
  refine WL.nil ?_
  refine thenQ_n (hK5 _ _ ?_)
  refine WC.ret ?_
  refine bodyQ_ret (.tmpV (v := v7) rfl .nil) ?_
  have h1 := hS.own_new (by repeat constructor); simp only [List.nil_append] at h1; exact ⟨h1, hS.old⟩

theorem clip_a (w0 : World) (v : Value) (xs : List Account) (hx : SlR w0 v xs) : Ret Tryd.prog 37 #[v] w0 (fun u w' => u = cutV v 0 xs.length xs.length (Enc.sz (Account)) ∧ Bel w0 w') := by
 refine Ret.enter (args := [v]) Tryd.func37 rfl Tryd.ntmps37 Tryd.results37 rfl ?_
 have hS := St.start w0
 refine WC.seq (fun K1 hK1 => ?_)
 refine WC.region ?_
 refine WL.op rfl (opW.assignV (v := .slice none 0 0) rfl ?_)
 refine WL.nil ?_
 refine thenQ_n (hK1 _ _ ?_)
 refine WC.seq (fun K2 hK2 => ?_)
 refine WC.region ?_
 refine WL.op rfl (opW.moveV (v := v) rfl ?_)
 refine WL.op rfl (opW.moveV (v := v) rfl ?_)
 refine WL.op rfl (opW.lenV rfl ((hx.bel hS.old)) ?_)
 refine WL.op rfl (opW.moveV (v := v) rfl ?_)
 refine WL.op rfl (opW.lenV rfl ((hx.bel hS.old)) ?_)
 refine WL.op rfl (opW.cutS (hx.bel hS.old) ⟨⟨_, rfl⟩, hx.cap⟩ ⟨⟨_, rfl⟩, Nat.le_refl _⟩ ⟨rfl, Nat.zero_le _⟩ ?_)
 refine WL.op rfl (opW.assignV rfl ?_)
 refine WL.nil ?_
 refine thenQ_n (hK2 _ _ ?_)
 refine WC.ret ?_
 refine bodyQ_ret (.tmp .nil) ?_
 exact ⟨rfl, hS.old⟩

theorem do_ok (w0 : World) (vl vr : Value) (ins : Instr) (l : List Account) (r : List Role) (ats dt : List UInt8) (hl : SlR w0 vl l) (hr : SlR w0 vr r) (ha : SlR w0 ins.accounts.v ats) (hd : SlR w0 ins.data.v dt) (hlb : l.length ≤ 100000) (hlw : ∀ y ∈ l, okW y) : Ret Tryd.prog 60 #[vl, vr, .agg (Enc.enc ins)] w0 (fun u w' => ∃ v, u = .tuple #[v, .int .u64 ((doF l r ats dt).2.1 : Int), .int .i64 (doF l r ats dt).1] ∧ New w0 w' v 64 (doF l r ats dt).2.2 ∧ Bel w0 w') := by
 refine Ret.enter (args := [vl, vr, .agg (Enc.enc ins)]) Tryd.func60 rfl Tryd.ntmps60 Tryd.results60 rfl ?_
 have hS := St.start w0
 refine WC.seq (fun K1 hK1 => ?_)
 refine WC.region ?_
 refine WL.op rfl (opW.boxA hS rfl ?_)
 intro b5 w _ hS
 refine WL.op rfl (opW.assignV (v := .slice none 0 0) rfl ?_)
 refine WL.op rfl (opW.assignI rfl ?_)
 refine WL.op rfl (opW.assignI rfl ?_)
 refine WL.nil ?_
 refine thenQ_n (hK1 _ _ ?_)
 refine WC.seq (fun K2 hK2 => ?_)
 refine WC.seq (fun K3 hK3 => ?_)
 refine WC.region ?_
 refine WL.op rfl (opW.moveV (v := vl) rfl ?_)
 refine WL.op rfl (opW.lenV rfl ((hl.bel hS.old)) ?_)
 refine WL.op rfl (opW.moveV (v := vr) rfl ?_)
 refine WL.op rfl (opW.lenV rfl ((hr.bel hS.old)) ?_)
 refine WL.op rfl (opW.neq rfl rfl ?_)
 refine WL.nil ?_
 refine thenQ_n (hK3 _ _ ?_)
 refine WC.cond _ rfl (fun hc0 => ?_) (fun hc0 => ?_)
 ·
  have hr0 := hc0
  try simp only [sq1,sq2,sq3,sq4,sq5,sq6,sq7,sq8,sq9,sq0] at hc0
  refine WC.seq (fun K4 hK4 => ?_)
  refine WC.region ?_
  refine WL.op rfl (opW.assignV (v := .slice none 0 0) rfl ?_)
  refine WL.op rfl (opW.assignI rfl ?_)
  refine WL.op rfl (opW.assignI rfl ?_)
  refine WL.nil ?_
  refine thenQ_n (hK4 _ _ ?_)
  refine WC.ret ?_
  refine thenQ_r ?_
  refine bodyQ_ret (.tmpV (v := .slice none 0 0) rfl (.tmpI rfl (.tmpI rfl .nil))) ?_
  rw [doF_len (by omega)]
  exact ⟨_, rfl, New.nil _ _ _, hS.old⟩
 ·
  have hr0 := hc0
  try simp only [sq1,sq2,sq3,sq4,sq5,sq6,sq7,sq8,sq9,sq0] at hc0
  have hlen : l.length = r.length := by omega
  refine WC.skip ?_
  refine thenQ_n (hK2 _ _ ?_)
  refine WC.seq (fun K5 hK5 => ?_)
  refine WC.region ?_
  refine WL.op rfl (opW.fieldAddrB rfl ?_)
  refine WL.op rfl (opW.loadV rfl (hS.ld1 (by repeat constructor) (Instr.at_data _)) ?_)
  refine WL.op rfl (opW.call (data_ok _ ins.data.v dt (hd.bel hS.old)) rfl ?_)
  rintro _ w ⟨x, bb, rfl, hbb, hask, hw⟩; replace hS := hS.bel hw
  refine WL.op rfl (opW.moveV (v := .tuple #[.agg (Enc.enc x), .bool bb]) rfl ?_)
  refine WL.op rfl (opW.extract rfl rfl ?_)
  refine WL.op rfl (opW.extract rfl rfl ?_)
  refine WL.op rfl (opW.allocA hS ?_)
  intro b9 w _ hS
  refine WL.op0 (opW.storeE hS rfl rfl (by repeat constructor) (by first | rfl | exact Enc.size_eq _) ?_)
  intro w hS; replace hS := hS _ (by repeat constructor)
  refine WL.op rfl (opW.assignB rfl ?_)
  refine WL.nil ?_
  refine thenQ_n (hK5 _ _ ?_)
  refine WC.seq (fun K6 hK6 => ?_)
  refine WC.seq (fun K7 hK7 => ?_)
  refine WC.region ?_
  refine WL.op rfl (opW.moveB rfl ?_)
  refine WL.op rfl (opW.not rfl ?_)
  refine WL.nil ?_
  refine thenQ_n (hK7 _ _ ?_)
  refine WC.cond _ rfl (fun hc1 => ?_) (fun hc1 => ?_)
  ·
   have hr1 := hc1
   try simp only [sq1,sq2,sq3,sq4,sq5,sq6,sq7,sq8,sq9,sq0] at hc1
   refine WC.seq (fun K8 hK8 => ?_)
   refine WC.region ?_
   refine WL.op rfl (opW.assignV (v := .slice none 0 0) rfl ?_)
   refine WL.op rfl (opW.assignI rfl ?_)
   refine WL.op rfl (opW.assignI rfl ?_)
   refine WL.nil ?_
   refine thenQ_n (hK8 _ _ ?_)
   refine WC.ret ?_
   refine thenQ_r ?_
   refine bodyQ_ret (.tmpV (v := .slice none 0 0) rfl (.tmpI rfl (.tmpI rfl .nil))) ?_
   have hbf : bb = false := by simpa using hr1
   rw [doF_none hlen (by rw [hbf] at hbb; cases h : askF dt with | none => rfl | some y => rw [h] at hbb; cases hbb)]
   exact ⟨_, rfl, New.nil _ _ _, hS.old⟩
  ·
   have hr1 := hc1
   try simp only [sq1,sq2,sq3,sq4,sq5,sq6,sq7,sq8,sq9,sq0] at hc1
   have hx := hask (by simpa using hr1)
   obtain ⟨htag, hxc, hxs⟩ := askF_ok hx
   refine WC.skip ?_
   refine thenQ_n (hK6 _ _ ?_)
   refine WC.seq (fun K9 hK9 => ?_)
   refine WC.seq (fun K10 hK10 => ?_)
   refine WC.region ?_
   refine WL.op rfl (opW.loadV rfl (hS.ldA (cs := Enc.enc x) (by repeat constructor) (Enc.size_eq _)) ?_)
   refine WL.op rfl (opW.moveV (v := vr) rfl ?_)
   refine WL.op rfl (opW.fieldAddrB rfl ?_)
   refine WL.op rfl (opW.loadV rfl (hS.ld1 (by repeat constructor) (Instr.at_accounts _)) ?_)
   refine WL.op rfl (opW.call (taken_ok _ x _ _ r ats (hr.bel hS.old) (ha.bel hS.old)) rfl ?_)
   rintro _ w ⟨rfl, hw⟩; replace hS := hS.bel hw
   refine WL.op rfl (opW.assignI rfl ?_)
   refine WL.nil ?_
   refine thenQ_n (hK10 _ _ ?_)
   refine WC.seq (fun K11 hK11 => ?_)
   refine WC.region ?_
   refine WL.op rfl (opW.moveI rfl ?_)
   refine WL.op rfl (opW.neq rfl rfl ?_)
   refine WL.nil ?_
   refine thenQ_n (hK11 _ _ ?_)
   refine WC.cond _ rfl (fun hc2 => ?_) (fun hc2 => ?_)
   ·
    have hr2 := hc2
    try simp only [sq1,sq2,sq3,sq4,sq5,sq6,sq7,sq8,sq9,sq0] at hc2
    refine WC.seq (fun K12 hK12 => ?_)
    refine WC.region ?_
    refine WL.op rfl (opW.moveI rfl ?_)
    refine WL.op rfl (opW.assignV (v := .slice none 0 0) rfl ?_)
    refine WL.op rfl (opW.assignI rfl ?_)
    refine WL.op rfl (opW.assignI rfl ?_)
    refine WL.nil ?_
    refine thenQ_n (hK12 _ _ ?_)
    refine WC.ret ?_
    refine thenQ_r ?_
    refine bodyQ_ret (.tmpV (v := .slice none 0 0) rfl (.tmpI rfl (.tmpI rfl .nil))) ?_
    rw [doF_tak hlen hx (by simpa using hr2)]
    exact ⟨_, rfl, New.nil _ _ _, hS.old⟩
   ·
    have hr2 := hc2
    try simp only [sq1,sq2,sq3,sq4,sq5,sq6,sq7,sq8,sq9,sq0] at hc2
    have htk : takF x.tag r ats = 0 := by simpa using hr2
    obtain ⟨hnl, hlk⟩ := takF_ok htk
    have hn12 := need_12 x.tag
    obtain ⟨j, hj⟩ : ∃ j, need x.tag - 1 = j := ⟨_, rfl⟩
    have hjl : j < ats.length := by omega
    have h0l : 0 < ats.length := by omega
    have ha0 : ats[0].toNat < l.length := by rw [hlen]; exact lacks_no hlk (List.getElem_mem _)
    have haj : ats[j].toNat < l.length := by rw [hlen]; exact lacks_no hlk (List.getElem_mem _)
    have hact := doF_act hlen hx htk h0l hjl hj ha0 haj
    refine WC.skip ?_
    refine thenQ_n (hK9 _ _ ?_)
    refine WC.seq (fun K13 hK13 => ?_)
    refine WC.region ?_
    refine WL.op rfl (opW.moveV (v := vl) rfl ?_)
    refine WL.op rfl (opW.call (clone_a _ _ l (hl.bel hS.old) hlb) rfl ?_)
    rintro v37 w ⟨hn37, hw⟩; replace hS := hS.newOwn hw hn37.1 hn37.2
    refine WL.op rfl (opW.call (clip_a _ _ l (hS.sl (v := v37) (xs := l) (by repeat constructor))) rfl ?_)
    rintro v38 w ⟨hv38, hw⟩; replace hS := hS.bel hw
    refine WL.op rfl (opW.assignV (v := v38) rfl ?_)
    replace hS := hS.cutOwn (v := v37) (T := 64) (xs := l) (by repeat constructor)
    rw [← hv38] at hS
    obtain ⟨pa, hpa⟩ : ∃ p, (elemP v38 ats[0].toNat (Enc.sz Account)) = .pointer p := by obtain ⟨b, o, h⟩ := (hS.sl (v := v38) (xs := l) (by repeat constructor)).isP (sz := Enc.sz Account) ha0; exact ⟨_, h⟩
    obtain ⟨pb, hpb⟩ : ∃ p, (elemP v38 ats[j].toNat (Enc.sz Account)) = .pointer p := by obtain ⟨b, o, h⟩ := (hS.sl (v := v38) (xs := l) (by repeat constructor)).isP (sz := Enc.sz Account) haj; exact ⟨_, h⟩
    have hA := hlw _ (List.getElem_mem ha0)
    have hB := hlw _ (List.getElem_mem haj)
    refine WL.nil ?_
    refine thenQ_n (hK13 _ _ ?_)
    refine WC.seq (fun K14 hK14 => ?_)
    refine WC.draw 17 (.look 0 (.look 1 (.look 2 (.look 3 (.look 4 (.look 5 (.look 6 (.look 7 (.look 8 (.look 9 (.fork 10 16 (.look 11 (.look 12 (.look 13 (.look 14 (.look 15 (.one 16 (.one 17 .nil))))))) (.one 10 (.look 11 (.look 12 (.look 13 (.look 14 (.look 15 (.one 17 .nil)))))))))))))))))) (by kernel_rfl) (fun _ _ _ h => h) (fun w1 hw1 => ?_)
    replace hS := hS.bel hw1
    have hS1 := hS
    have hT := St.start w1
    refine ML.look rfl rfl rfl (fun w hw => (by have hS := hS1.bel hw; exact opW.moveV (v := v38) rfl ⟨rfl, rfl⟩)) ?_
    refine ML.look rfl rfl rfl (fun w hw => (by have hS := hS1.bel hw; exact opW.fieldAddrB rfl ⟨rfl, rfl⟩)) ?_
    refine ML.look rfl rfl rfl (fun w hw => (by have hS := hS1.bel hw; exact opW.loadV rfl (hS.ld1 (by repeat constructor) (Instr.at_accounts _)) ⟨rfl, rfl⟩)) ?_
    refine ML.look rfl rfl rfl (fun w hw => (by have hS := hS1.bel hw; exact opW.idxV rfl ((ha.bel hS.old)) rfl (by omega) ⟨rfl, rfl⟩)) ?_
    refine ML.look rfl rfl rfl (fun w hw => (by have hS := hS1.bel hw; exact opW.loadV rfl (((ha.bel hS.old).isPt h0l).ld rfl) ⟨rfl, rfl⟩)) ?_
    refine ML.look rfl rfl rfl (fun w hw => (by have hS := hS1.bel hw; exact opW.idxV rfl (hS.sl (v := v38) (xs := l) (by repeat constructor)) rfl (by omega) ⟨rfl, rfl⟩)) ?_
    refine ML.look rfl rfl rfl (fun w hw => (by have hS := hS1.bel hw; exact opW.moveV (v := v38) rfl ⟨rfl, rfl⟩)) ?_
    refine ML.look rfl rfl rfl (fun w hw => (by have hS := hS1.bel hw; exact opW.fieldAddrB rfl ⟨rfl, rfl⟩)) ?_
    refine ML.look rfl rfl rfl (fun w hw => (by have hS := hS1.bel hw; exact opW.loadV rfl (hS.ld1 (by repeat constructor) (Instr.at_accounts _)) ⟨rfl, rfl⟩)) ?_
    refine ML.look rfl rfl rfl (fun w hw => (by have hS := hS1.bel hw; exact opW.loadV rfl (hS.ldA (cs := Enc.enc x) (by repeat constructor) (Enc.size_eq _)) ⟨rfl, rfl⟩)) ?_
    refine ML.fork rfl rfl rfl rfl ?_ ?_ 
    ·refine opW.call (need_ok _ x) rfl ?_
     rintro _ w ⟨rfl, hw⟩; replace hT := hT.bel hw
     refine ⟨hT.old, ?_⟩
     have hS := hS1.merge hT
     try simp only [List.cons_append, List.nil_append] at hS
     refine ML.look rfl rfl rfl (fun w hw => (by have hS := hS1.bel hw; exact opW.sub rfl rfl ((wrap_i64 (by omega)).trans (by omega : _ = (j : Int))) ⟨rfl, rfl⟩)) ?_
     refine ML.look rfl rfl rfl (fun w hw => (by have hS := hS1.bel hw; exact opW.idxV rfl ((ha.bel hS.old)) rfl (by omega) ⟨rfl, rfl⟩)) ?_
     refine ML.look rfl rfl rfl (fun w hw => (by have hS := hS1.bel hw; exact opW.loadV rfl (((ha.bel hS.old).isPt hjl).ld rfl) ⟨rfl, rfl⟩)) ?_
     refine ML.look rfl rfl rfl (fun w hw => (by have hS := hS1.bel hw; exact opW.idxV rfl (hS.sl (v := v38) (xs := l) (by repeat constructor)) rfl (by omega) ⟨rfl, rfl⟩)) ?_
     refine ML.look rfl rfl rfl (fun w hw => (by have hS := hS1.bel hw; exact opW.buildE (r := (⟨pa, pb⟩ : PairS)) (ps := PairS.parts (⟨pa, pb⟩ : PairS)) (PairS.enc_eq _) (by show setParts _ [(0, (elemP v38 ats[0].toNat (Enc.sz Account))), (1, (elemP v38 ats[j].toNat (Enc.sz Account)))] = _; rw [hpa, hpb]; rfl) (by show partsFit _ [(0, (elemP v38 ats[0].toNat (Enc.sz Account))), (1, (elemP v38 ats[j].toNat (Enc.sz Account)))]; rw [hpa, hpb]; (repeat' (first | exact trivial | refine And.intro ?_ ?_)) <;> first | rfl | exact Enc.size_eq _ | (simp; done)) ⟨rfl, rfl⟩)) ?_
     refine ML.one rfl rfl rfl (opW.allocA hT ?_)
     intro b13 w hw hT
     refine ⟨hT.old, ?_⟩
     have hS := hS1.merge hT
     try simp only [List.cons_append, List.nil_append] at hS
     refine ML.put0 rfl rfl rfl (opW.storeE hS rfl rfl (by repeat constructor) (by first | rfl | exact Enc.size_eq _) ?_)
     intro w hS; replace hS := hS _ (by repeat constructor)
     refine ML.nil ?_
     refine thenQ_n (hK14 _ _ ?_)
     refine WC.seq (fun K15 hK15 => ?_)
     refine WC.seq (fun K16 hK16 => ?_)
     refine WC.draw 6 (.look 1 (.look 2 (.look 4 (.look 5 (.one 0 (.one 3 (.one 6 (.one 7 .nil)))))))) (by kernel_rfl) (fun _ _ _ h => h) (fun w1 hw1 => ?_)
     replace hS := hS.bel hw1
     have hS1 := hS
     have hT := St.start w1
     obtain ⟨fvx, hfv⟩ : ∃ u, (aget (⟨x.tag⟩ : U64) doesK).getD fz = u := ⟨_, rfl⟩
     refine ML.look rfl rfl rfl (fun w hw => (by have hS := hS1.bel hw; exact opW.fieldAddrB rfl ⟨rfl, rfl⟩)) ?_
     refine ML.look rfl rfl rfl (fun w hw => (by have hS := hS1.bel hw; exact opW.loadV rfl (hS.ld1 (by repeat constructor) (Ask.at_tag _)) ⟨rfl, rfl⟩)) ?_
     refine ML.look rfl rfl rfl (fun w hw => (by have hS := hS1.bel hw; exact opW.loadV rfl (hS.ldA (cs := Enc.enc x) (by repeat constructor) (Enc.size_eq _)) ⟨rfl, rfl⟩)) ?_
     refine ML.look rfl rfl rfl (fun w hw => (by have hS := hS1.bel hw; exact opW.loadV rfl (hS.ldA (cs := Enc.enc (⟨pa, pb⟩ : PairS)) (by repeat constructor) (Enc.size_eq _)) ⟨rfl, rfl⟩)) ?_
     refine ML.one rfl rfl rfl (opW.call (does_ok _) rfl ?_)
     rintro _ w ⟨⟨r55, rfl, hge, hmb⟩, hw⟩; replace hT := hT.newMap hw hmb hge
     refine ⟨hT.old, ?_⟩
     have hS := hS1.merge hT
     try simp only [List.cons_append, List.nil_append] at hS
     refine ML.one rfl rfl rfl (opW.lookupZ (κ := U64) (ν := Value) (k := ⟨x.tag⟩) (vv := idV) (kvs := doesK) (z0 := fz) (inferInstanceAs (ZeroT Tryd.prog _ .nilFunc)) (hS.map (by repeat constructor)) rfl rfl hfv ?_)
     refine ⟨hT.old, ?_⟩
     have hS := hS1.merge hT
     try simp only [List.cons_append, List.nil_append] at hS
     refine ML.put1 rfl rfl rfl rfl (opW.callV rfl (does_call w0 _ _ x (⟨pa, pb⟩ : PairS) v38 l _ _ ha0 haj hpa.symm hpb.symm ⟨hxc, hxs⟩ hA hB (hS.pick (e := ownE v38 64 l) (by repeat constructor)) htag hfv) rfl ?_)
     rintro _ w ⟨out2, rfl, hout, hS⟩
     refine ML.put1 rfl rfl rfl rfl (opW.assignI rfl ?_)
     refine ML.nil ?_
     refine thenQ_n (hK16 _ _ ?_)
     refine WC.seq (fun K17 hK17 => ?_)
     refine WC.region ?_
     refine WL.op rfl (opW.moveI rfl ?_)
     refine WL.op rfl (opW.neq rfl rfl ?_)
     refine WL.nil ?_
     refine thenQ_n (hK17 _ _ ?_)
     refine WC.cond _ rfl (fun hc3 => ?_) (fun hc3 => ?_)
     ·
      have hr3 := hc3
      try simp only [sq1,sq2,sq3,sq4,sq5,sq6,sq7,sq8,sq9,sq0] at hc3
      refine WC.seq (fun K18 hK18 => ?_)
      refine WC.region ?_
      refine WL.op rfl (opW.moveI rfl ?_)
      refine WL.op rfl (opW.assignV (v := .slice none 0 0) rfl ?_)
      refine WL.op rfl (opW.assignI rfl ?_)
      refine WL.op rfl (opW.assignI rfl ?_)
      refine WL.nil ?_
      refine thenQ_n (hK18 _ _ ?_)
      refine WC.ret ?_
      refine thenQ_r ?_
      refine bodyQ_ret (.tmpV (v := .slice none 0 0) rfl (.tmpI rfl (.tmpI rfl .nil))) ?_
      have hne : actE x l[ats[0].toNat] l[ats[j].toNat] (decide (ats[0].toNat = ats[j].toNat)) ≠ 0 := by simpa using hr3
      rw [hact, if_pos hne]
      exact ⟨_, rfl, New.nil _ _ _, hS.old⟩
     ·
      have hr3 := hc3
      try simp only [sq1,sq2,sq3,sq4,sq5,sq6,sq7,sq8,sq9,sq0] at hc3
      refine WC.skip ?_
      refine thenQ_n (hK15 _ _ ?_)
      refine WC.seq (fun K19 hK19 => ?_)
      refine WC.draw 6 (.look 0 (.look 1 (.look 2 (.look 3 (.look 4 (.look 5 .nil)))))) (by kernel_rfl) (fun _ _ _ h => h) (fun w1 hw1 => ?_)
      replace hS := hS.bel hw1
      have hS1 := hS
      have hT := St.start w1
      refine ML.look rfl rfl rfl (fun w hw => (by have hS := hS1.bel hw; exact opW.moveV (v := v38) rfl ⟨rfl, rfl⟩)) ?_
      refine ML.look rfl rfl rfl (fun w hw => (by have hS := hS1.bel hw; exact opW.fieldAddrB rfl ⟨rfl, rfl⟩)) ?_
      refine ML.look rfl rfl rfl (fun w hw => (by have hS := hS1.bel hw; exact opW.loadV rfl (hS.ld1 (by repeat constructor) (Ask.at_space _)) ⟨rfl, rfl⟩)) ?_
      refine ML.look rfl rfl rfl (fun w hw => (by have hS := hS1.bel hw; exact opW.assignV (v := v38) rfl ⟨rfl, rfl⟩)) ?_
      refine ML.look rfl rfl rfl (fun w hw => (by have hS := hS1.bel hw; exact opW.assignI rfl ⟨rfl, rfl⟩)) ?_
      refine ML.look rfl rfl rfl (fun w hw => (by have hS := hS1.bel hw; exact opW.assignI rfl ⟨rfl, rfl⟩)) ?_
      refine ML.nil ?_
      refine thenQ_n (hK19 _ _ ?_)
      refine WC.ret ?_
      refine bodyQ_ret (.tmpV (v := v38) rfl (.tmpI rfl (.tmpI rfl .nil))) ?_
      have hz : actE x l[ats[0].toNat] l[ats[j].toNat] (decide (ats[0].toNat = ats[j].toNat)) = 0 := by simpa using hr3
      rw [hact, if_neg (fun e => e hz), ← hout hz]
      exact ⟨_, rfl, hS.own_new (by repeat constructor), hS.old⟩
    ·refine opW.allocA hT ?_
     intro b13 w hw hT
     refine ⟨hT.old, ?_⟩
     have hS := hS1.merge hT
     try simp only [List.cons_append, List.nil_append] at hS
     refine ML.one rfl rfl rfl (opW.call (need_ok _ x) rfl ?_)
     rintro _ w ⟨rfl, hw⟩; replace hT := hT.bel hw
     refine ⟨hT.old, ?_⟩
     have hS := hS1.merge hT
     try simp only [List.cons_append, List.nil_append] at hS
     refine ML.look rfl rfl rfl (fun w hw => (by have hS := hS1.bel hw; exact opW.sub rfl rfl ((wrap_i64 (by omega)).trans (by omega : _ = (j : Int))) ⟨rfl, rfl⟩)) ?_
     refine ML.look rfl rfl rfl (fun w hw => (by have hS := hS1.bel hw; exact opW.idxV rfl ((ha.bel hS.old)) rfl (by omega) ⟨rfl, rfl⟩)) ?_
     refine ML.look rfl rfl rfl (fun w hw => (by have hS := hS1.bel hw; exact opW.loadV rfl (((ha.bel hS.old).isPt hjl).ld rfl) ⟨rfl, rfl⟩)) ?_
     refine ML.look rfl rfl rfl (fun w hw => (by have hS := hS1.bel hw; exact opW.idxV rfl (hS.sl (v := v38) (xs := l) (by repeat constructor)) rfl (by omega) ⟨rfl, rfl⟩)) ?_
     refine ML.look rfl rfl rfl (fun w hw => (by have hS := hS1.bel hw; exact opW.buildE (r := (⟨pa, pb⟩ : PairS)) (ps := PairS.parts (⟨pa, pb⟩ : PairS)) (PairS.enc_eq _) (by show setParts _ [(0, (elemP v38 ats[0].toNat (Enc.sz Account))), (1, (elemP v38 ats[j].toNat (Enc.sz Account)))] = _; rw [hpa, hpb]; rfl) (by show partsFit _ [(0, (elemP v38 ats[0].toNat (Enc.sz Account))), (1, (elemP v38 ats[j].toNat (Enc.sz Account)))]; rw [hpa, hpb]; (repeat' (first | exact trivial | refine And.intro ?_ ?_)) <;> first | rfl | exact Enc.size_eq _ | (simp; done)) ⟨rfl, rfl⟩)) ?_
     refine ML.put0 rfl rfl rfl (opW.storeE hS rfl rfl (by repeat constructor) (by first | rfl | exact Enc.size_eq _) ?_)
     intro w hS; replace hS := hS _ (by repeat constructor)
     refine ML.nil ?_
     refine thenQ_n (hK14 _ _ ?_)
     refine WC.seq (fun K20 hK20 => ?_)
     refine WC.seq (fun K21 hK21 => ?_)
     refine WC.draw 6 (.look 1 (.look 2 (.look 4 (.look 5 (.one 0 (.one 3 (.one 6 (.one 7 .nil)))))))) (by kernel_rfl) (fun _ _ _ h => h) (fun w1 hw1 => ?_)
     replace hS := hS.bel hw1
     have hS1 := hS
     have hT := St.start w1
     obtain ⟨fvx, hfv⟩ : ∃ u, (aget (⟨x.tag⟩ : U64) doesK).getD fz = u := ⟨_, rfl⟩
     refine ML.look rfl rfl rfl (fun w hw => (by have hS := hS1.bel hw; exact opW.fieldAddrB rfl ⟨rfl, rfl⟩)) ?_
     refine ML.look rfl rfl rfl (fun w hw => (by have hS := hS1.bel hw; exact opW.loadV rfl (hS.ld1 (by repeat constructor) (Ask.at_tag _)) ⟨rfl, rfl⟩)) ?_
     refine ML.look rfl rfl rfl (fun w hw => (by have hS := hS1.bel hw; exact opW.loadV rfl (hS.ldA (cs := Enc.enc x) (by repeat constructor) (Enc.size_eq _)) ⟨rfl, rfl⟩)) ?_
     refine ML.look rfl rfl rfl (fun w hw => (by have hS := hS1.bel hw; exact opW.loadV rfl (hS.ldA (cs := Enc.enc (⟨pa, pb⟩ : PairS)) (by repeat constructor) (Enc.size_eq _)) ⟨rfl, rfl⟩)) ?_
     refine ML.one rfl rfl rfl (opW.call (does_ok _) rfl ?_)
     rintro _ w ⟨⟨r55, rfl, hge, hmb⟩, hw⟩; replace hT := hT.newMap hw hmb hge
     refine ⟨hT.old, ?_⟩
     have hS := hS1.merge hT
     try simp only [List.cons_append, List.nil_append] at hS
     refine ML.one rfl rfl rfl (opW.lookupZ (κ := U64) (ν := Value) (k := ⟨x.tag⟩) (vv := idV) (kvs := doesK) (z0 := fz) (inferInstanceAs (ZeroT Tryd.prog _ .nilFunc)) (hS.map (by repeat constructor)) rfl rfl hfv ?_)
     refine ⟨hT.old, ?_⟩
     have hS := hS1.merge hT
     try simp only [List.cons_append, List.nil_append] at hS
     refine ML.put1 rfl rfl rfl rfl (opW.callV rfl (does_call w0 _ _ x (⟨pa, pb⟩ : PairS) v38 l _ _ ha0 haj hpa.symm hpb.symm ⟨hxc, hxs⟩ hA hB (hS.pick (e := ownE v38 64 l) (by repeat constructor)) htag hfv) rfl ?_)
     rintro _ w ⟨out2, rfl, hout, hS⟩
     refine ML.put1 rfl rfl rfl rfl (opW.assignI rfl ?_)
     refine ML.nil ?_
     refine thenQ_n (hK21 _ _ ?_)
     refine WC.seq (fun K22 hK22 => ?_)
     refine WC.region ?_
     refine WL.op rfl (opW.moveI rfl ?_)
     refine WL.op rfl (opW.neq rfl rfl ?_)
     refine WL.nil ?_
     refine thenQ_n (hK22 _ _ ?_)
     refine WC.cond _ rfl (fun hc3 => ?_) (fun hc3 => ?_)
     ·
      have hr3 := hc3
      try simp only [sq1,sq2,sq3,sq4,sq5,sq6,sq7,sq8,sq9,sq0] at hc3
      refine WC.seq (fun K23 hK23 => ?_)
      refine WC.region ?_
      refine WL.op rfl (opW.moveI rfl ?_)
      refine WL.op rfl (opW.assignV (v := .slice none 0 0) rfl ?_)
      refine WL.op rfl (opW.assignI rfl ?_)
      refine WL.op rfl (opW.assignI rfl ?_)
      refine WL.nil ?_
      refine thenQ_n (hK23 _ _ ?_)
      refine WC.ret ?_
      refine thenQ_r ?_
      refine bodyQ_ret (.tmpV (v := .slice none 0 0) rfl (.tmpI rfl (.tmpI rfl .nil))) ?_
      have hne : actE x l[ats[0].toNat] l[ats[j].toNat] (decide (ats[0].toNat = ats[j].toNat)) ≠ 0 := by simpa using hr3
      rw [hact, if_pos hne]
      exact ⟨_, rfl, New.nil _ _ _, hS.old⟩
     ·
      have hr3 := hc3
      try simp only [sq1,sq2,sq3,sq4,sq5,sq6,sq7,sq8,sq9,sq0] at hc3
      refine WC.skip ?_
      refine thenQ_n (hK20 _ _ ?_)
      refine WC.seq (fun K24 hK24 => ?_)
      refine WC.draw 6 (.look 0 (.look 1 (.look 2 (.look 3 (.look 4 (.look 5 .nil)))))) (by kernel_rfl) (fun _ _ _ h => h) (fun w1 hw1 => ?_)
      replace hS := hS.bel hw1
      have hS1 := hS
      have hT := St.start w1
      refine ML.look rfl rfl rfl (fun w hw => (by have hS := hS1.bel hw; exact opW.moveV (v := v38) rfl ⟨rfl, rfl⟩)) ?_
      refine ML.look rfl rfl rfl (fun w hw => (by have hS := hS1.bel hw; exact opW.fieldAddrB rfl ⟨rfl, rfl⟩)) ?_
      refine ML.look rfl rfl rfl (fun w hw => (by have hS := hS1.bel hw; exact opW.loadV rfl (hS.ld1 (by repeat constructor) (Ask.at_space _)) ⟨rfl, rfl⟩)) ?_
      refine ML.look rfl rfl rfl (fun w hw => (by have hS := hS1.bel hw; exact opW.assignV (v := v38) rfl ⟨rfl, rfl⟩)) ?_
      refine ML.look rfl rfl rfl (fun w hw => (by have hS := hS1.bel hw; exact opW.assignI rfl ⟨rfl, rfl⟩)) ?_
      refine ML.look rfl rfl rfl (fun w hw => (by have hS := hS1.bel hw; exact opW.assignI rfl ⟨rfl, rfl⟩)) ?_
      refine ML.nil ?_
      refine thenQ_n (hK24 _ _ ?_)
      refine WC.ret ?_
      refine bodyQ_ret (.tmpV (v := v38) rfl (.tmpI rfl (.tmpI rfl .nil))) ?_
      have hz : actE x l[ats[0].toNat] l[ats[j].toNat] (decide (ats[0].toNat = ats[j].toNat)) = 0 := by simpa using hr3
      rw [hact, if_neg (fun e => e hz), ← hout hz]
      exact ⟨_, rfl, hS.own_new (by repeat constructor), hS.old⟩

theorem lacks_yes {n : Nat} {ats : List UInt8} {c : UInt8} (hc : c ∈ ats) (h : (n : Int) ≤ (c.toNat : Int)) : lacks n ats = true := List.any_eq_true.2 ⟨c, hc, decide_eq_true h⟩
theorem lacks_of {n : Nat} {ats : List UInt8} (h : ∀ i (hi : i < ats.length), ats[i].toNat < n) : lacks n ats = false := by
 refine List.any_eq_false.2 fun c hc => ?_
 obtain ⟨i, hi, rfl⟩ := List.getElem_of_mem hc
 have := h i hi
 simp only [decide_eq_true_eq]; omega
theorem actE0 {x : Ask} {A B : Account} {s : Bool} (h : x.tag = 0) : actE x A B s = mkE x A B := if_pos h
theorem actE1 {x : Ask} {A B : Account} {s : Bool} (h : x.tag = 1) : actE x A B s = asE A := by unfold actE; rw [if_neg (by omega), if_pos h]
theorem actE2 {x : Ask} {A B : Account} {s : Bool} (h : x.tag = 2) : actE x A B s = mvE x A B s := by unfold actE; rw [if_neg (by omega), if_neg (by omega), if_pos h]
theorem actE8 {x : Ask} {A B : Account} {s : Bool} (h : x.tag = 8) : actE x A B s = alE x A := by unfold actE; rw [if_neg (by omega), if_neg (by omega), if_neg (by omega)]
theorem actL0 {x : Ask} {l : List Account} {a b : Nat} {A B : Account} (h : x.tag = 0) : actL x l a b A B = mkL x l a b A := if_pos h
theorem actL1 {x : Ask} {l : List Account} {a b : Nat} {A B : Account} (h : x.tag = 1) : actL x l a b A B = l.set a { A with owner := x.owner } := by unfold actL; rw [if_neg (by omega), if_pos h]
theorem actL2 {x : Ask} {l : List Account} {a b : Nat} {A B : Account} (h : x.tag = 2) : actL x l a b A B = mvL x l a b A B := by unfold actL; rw [if_neg (by omega), if_neg (by omega), if_pos h]
theorem actL8 {x : Ask} {l : List Account} {a b : Nat} {A B : Account} (h : x.tag = 8) : actL x l a b A B = l.set a { A with space := x.space } := by unfold actL; rw [if_neg (by omega), if_neg (by omega), if_neg (by omega)]
theorem roleErr_ok {t : Nat} {r : List Role} {i : Nat} {c : UInt8} (h : c.toNat < r.length) (h0 : roleErr t r i c = 0) : r[c.toNat].writes = true ∧ (¬ (t = 2 ∧ 0 < i) → r[c.toNat].signs = true) := by
 rw [roleErr_of h] at h0
 split at h0
 ·cases h0
 ·rename_i h1
  split at h0
  ·cases h0
  ·rename_i h2
   refine ⟨by simpa using h2, fun h3 => ?_⟩
   rw [Bool.not_eq_true, Bool.and_eq_false_iff] at h1
   rcases h1 with h1 | h1
   ·simpa using h1
   ·exfalso; apply h3
    simp only [Bool.not_eq_false', Bool.and_eq_true, decide_eq_true_eq] at h1
    omega
theorem roleErrs_ok {t : Nat} {r : List Role} : ∀ {l : List UInt8} {i : Nat}, roleErrs t r l i = 0 → ∀ k (hk : k < l.length), roleErr t r (i + k) l[k] = 0
 | c :: l, i, h, k, hk => by
  simp only [roleErrs] at h
  split at h
  ·rename_i h1; exact absurd h h1
  ·rename_i h1
   cases k with
   | zero => simpa using h1
   | succ k =>
    have := roleErrs_ok h k (by simpa using hk)
    simpa [Nat.add_assoc, Nat.add_comm 1 k] using this
theorem takF_roles {t : Nat} {r : List Role} {ats : List UInt8} (h : takF t r ats = 0) : roleErrs t r (ats.take (need t)) 0 = 0 := by
 obtain ⟨h1, h2⟩ := takF_ok h
 unfold takF at h
 rw [if_neg (by rw [h2, decide_eq_false (by omega)]; decide)] at h
 exact h
theorem askF_space {b : List UInt8} {x : Ask} (h : askF b = some x) : (x.tag = 1 → x.space = 0) ∧ (x.tag = 2 → x.space = 0) := by
 unfold askF at h
 split at h
 ·cases h
 ·simp only at h
  split at h
  ·cases h; exact ⟨fun e => (by cases e), fun e => (by cases e)⟩
  split at h
  ·cases h; exact ⟨fun _ => rfl, fun e => (by cases e)⟩
  split at h
  ·cases h; exact ⟨fun e => (by cases e), fun _ => rfl⟩
  split at h
  ·cases h; exact ⟨fun e => (by cases e), fun e => (by cases e)⟩
  ·cases h
/-- what is so where an instruction is carried out -/
structure DoOk (l : List Account) (r : List Role) (ats dt : List UInt8) (x : Ask) (a b : Nat) : Prop where
 len : l.length = r.length
 ask : askF dt = some x
 tak : takF x.tag r ats = 0
 h0 : 0 < ats.length
 ha : a < l.length
 hb : b < l.length
 ea : a = (ats.getD 0 0).toNat
 eb : b = (ats.getD (need x.tag - 1) 0).toNat
 one : ¬ (x.tag = 0 ∨ x.tag = 2) → b = a
 act : actE x (l[a]'ha) (l[b]'hb) (decide (a = b)) = 0
 res : doF l r ats dt = (0, x.space, actL x l a b (l[a]'ha) (l[b]'hb))
 sa : (r[a]'(len ▸ ha)).signs = true
 wa : (r[a]'(len ▸ ha)).writes = true
 sb : x.tag ≠ 2 → (r[b]'(len ▸ hb)).signs = true
 wb : (r[b]'(len ▸ hb)).writes = true
theorem doF_ok {l : List Account} {r : List Role} {ats dt : List UInt8} (h : (doF l r ats dt).1 = 0) : ∃ x a b, DoOk l r ats dt x a b := by
 have hlen : l.length = r.length := by
  apply Classical.byContradiction; intro hn
  rw [doF_len hn] at h; cases h
 cases hx : askF dt with
 | none => rw [doF_none hlen hx] at h; cases h
 | some x =>
  have htk : takF x.tag r ats = 0 := by
   apply Classical.byContradiction; intro hn
   rw [doF_tak hlen hx hn] at h; exact hn h
  obtain ⟨hnl, hlk⟩ := takF_ok htk
  have hn12 := need_12 x.tag
  obtain ⟨j, hj⟩ : ∃ j, need x.tag - 1 = j := ⟨_, rfl⟩
  have hjl : j < ats.length := by omega
  have h0l : 0 < ats.length := by omega
  have ha0 : ats[0].toNat < l.length := by rw [hlen]; exact lacks_no hlk (List.getElem_mem _)
  have haj : ats[j].toNat < l.length := by rw [hlen]; exact lacks_no hlk (List.getElem_mem _)
  have hact := doF_act hlen hx htk h0l hjl hj ha0 haj
  have hrs := takF_roles htk
  have htl : (ats.take (need x.tag)).length = need x.tag := by simp; omega
  have e0 := roleErrs_ok hrs 0 (by omega)
  have ej := roleErrs_ok hrs j (by omega)
  rw [List.getElem_take] at e0 ej
  rw [Nat.zero_add] at e0 ej
  have r0 := roleErr_ok (lacks_no hlk (List.getElem_mem h0l)) e0
  have rj := roleErr_ok (lacks_no hlk (List.getElem_mem hjl)) ej
  have hz : actE x l[ats[0].toNat] l[ats[j].toNat] (decide (ats[0].toNat = ats[j].toNat)) = 0 := by
   apply Classical.byContradiction; intro hn
   rw [hact, if_pos hn] at h; exact hn h
  have hj0 : ¬ (x.tag = 0 ∨ x.tag = 2) → j = 0 := fun hn => by
   have : need x.tag = 1 := if_neg hn
   omega
  refine ⟨x, ats[0].toNat, ats[j].toNat, hlen, hx, htk, h0l, ha0, haj, by rw [getD_of h0l], by rw [hj, getD_of hjl], fun hn => ?_, hz, by rw [hact, if_neg (fun e => e hz)], r0.2 (by omega), r0.1, fun hn => rj.2 (by omega), rj.1⟩
  have := hj0 hn
  subst this
  rfl
theorem doF_err {l : List Account} {r : List Role} {ats dt : List UInt8} (h : (doF l r ats dt).1 ≠ 0) : (doF l r ats dt).2 = (0, []) := by
 unfold doF at h ⊢
 split
 ·rfl
 ·rename_i h1
  rw [if_neg h1] at h
  cases hx : askF dt with
  | none => rfl
  | some x =>
   rw [hx] at h
   simp only at h ⊢
   split
   ·rfl
   ·rename_i h2
    rw [if_neg h2] at h
    split
    ·rfl
    ·rename_i h3
     rw [if_neg h3] at h
     exact absurd rfl h
/-! coins -/
def sumC (l : List Account) : Nat := (l.map Account.coins).sum
theorem sumC_set : ∀ {l : List Account} {i : Nat} (hi : i < l.length) (y : Account), sumC (l.set i y) + l[i].coins = sumC l + y.coins
 | x :: l, 0, _, y => by simp [sumC]; omega
 | x :: l, i + 1, hi, y => by
  have := sumC_set (l := l) (i := i) (by simpa using hi) y
  simp [sumC] at this ⊢; omega
theorem mkE_ok {x : Ask} {A B : Account} (h : mkE x A B = 0) : B = az ∧ A.owner = sysK ∧ A.space = 0 ∧ x.space ≤ 1048576 ∧ x.coins ≤ A.coins := by
 unfold mkE at h
 split at h
 ·cases h
 rename_i h1
 split at h
 ·cases h
 rename_i h2
 split at h
 ·cases h
 rename_i h3
 split at h
 ·cases h
 rename_i h4
 have h2' : plainB A = true := by simpa using h2
 unfold plainB at h2'
 simp only [Bool.and_eq_true, decide_eq_true_eq] at h2'
 exact ⟨by simpa using h1, h2'.1, by omega, by omega, by omega⟩
theorem asE_ok {A : Account} (h : asE A = 0) : A.owner = sysK := by
 unfold asE at h
 split at h
 ·cases h
 rename_i h1
 simpa using h1
theorem mvE_ok {x : Ask} {A B : Account} {s : Bool} (h : mvE x A B s = 0) : A.owner = sysK ∧ A.space = 0 ∧ x.coins ≤ A.coins ∧ (s = false → B.coins ≤ 18446744073709551615 - x.coins) := by
 unfold mvE at h
 split at h
 ·cases h
 rename_i h1
 split at h
 ·cases h
 rename_i h2
 have h1' : plainB A = true := by simpa using h1
 unfold plainB at h1'
 simp only [Bool.and_eq_true, decide_eq_true_eq] at h1'
 refine ⟨h1'.1, by omega, by omega, fun hs => ?_⟩
 rw [if_neg (by rw [hs]; decide)] at h
 split at h
 ·cases h
 ·omega
theorem alE_ok {x : Ask} {A : Account} (h : alE x A = 0) : A.owner = sysK ∧ A.space = 0 ∧ x.space ≤ 1048576 := by
 unfold alE at h
 split at h
 ·cases h
 rename_i h1
 split at h
 ·cases h
 rename_i h2
 have h1' : plainB A = true := by simpa using h1
 unfold plainB at h1'
 simp only [Bool.and_eq_true, decide_eq_true_eq] at h1'
 exact ⟨h1'.1, by omega, by omega⟩
/-- what may become of an account -/
def ChgOk (n : Nat) (ro : Role) (was now : Account) : Prop :=
 now ≠ was → ro.writes = true ∧ (was.owner ≠ sysK → was.coins ≤ now.coins ∧ now.owner = was.owner) ∧ ((now.coins < was.coins ∨ now.owner ≠ was.owner ∨ now.space ≠ was.space) → ro.signs = true) ∧ (now.space ≠ was.space → was.space = 0 ∧ now.space = n)
structure CoinsOk (l : List Account) (r : List Role) (n : Nat) (out : List Account) (a b : Nat) : Prop where
 len : out.length = l.length
 sum : sumC out = sumC l
 n_le : n ≤ 1048576
 rest : ∀ k (h1 : k < out.length) (h2 : k < l.length), out[k] ≠ l[k] → k = a ∨ k = b
 chg : ∀ k (h1 : k < out.length) (h2 : k < l.length) (h3 : k < r.length), ChgOk n r[k] l[k] out[k]
theorem set2_get {l : List Account} {a b : Nat} {X Y : Account} {k : Nat} (h1 : k < ((l.set a X).set b Y).length) (h2 : k < l.length) : ((l.set a X).set b Y)[k] = if k = b then Y else if k = a then X else l[k] := by
 rw [List.getElem_set]
 by_cases hb : k = b
 ·rw [if_pos hb.symm, if_pos hb]
 ·rw [if_neg (fun e => hb e.symm), if_neg hb, List.getElem_set]
  by_cases ha : k = a
  ·rw [if_pos ha.symm, if_pos ha]
  ·rw [if_neg (fun e => ha e.symm), if_neg ha]
theorem set1_get {l : List Account} {a : Nat} {X : Account} {k : Nat} (h1 : k < (l.set a X).length) (h2 : k < l.length) : (l.set a X)[k] = if k = a then X else l[k] := by
 rw [List.getElem_set]
 by_cases ha : k = a
 ·rw [if_pos ha.symm, if_pos ha]
 ·rw [if_neg (fun e => ha e.symm), if_neg ha]
theorem coins_ok {l : List Account} {r : List Role} {ats dt : List UInt8} {x : Ask} {a b : Nat} (h : DoOk l r ats dt x a b) : CoinsOk l r x.space (actL x l a b (l[a]'h.ha) (l[b]'h.hb)) a b := by
 have htag := (askF_ok h.ask).1
 have hsp := askF_space h.ask
 have hact := h.act
 have hA := h.ha
 have hB := h.hb
 rcases htag with ht | ht | ht | ht
 ·rw [actE0 ht] at hact
  rw [actL0 ht]
  obtain ⟨h1, h2, h3, h4, h5⟩ := mkE_ok hact
  have hsb := h.sb (by omega)
  have hc : l[b].coins = 0 := by rw [h1]; rfl
  have hs : l[b].space = 0 := by rw [h1]; rfl
  have ho : l[b].owner = sysK := by rw [h1]; rfl
  unfold mkL
  refine ⟨by simp, ?_, h4, fun k k1 k2 hne => ?_, fun k k1 k2 k3 hne => ?_⟩
  ·have s1 := sumC_set hA { l[a] with coins := l[a].coins - x.coins }
   have s2 := sumC_set (l := l.set a { l[a] with coins := l[a].coins - x.coins }) (i := b) (by simpa using hB) ⟨x.coins, x.owner, x.space⟩
   rw [set1_get (by simpa using hB) hB] at s2
   by_cases hab : b = a
   ·subst hab
    rw [if_pos rfl] at s2
    simp only at s1 s2
    omega
   ·rw [if_neg hab] at s2
    simp only at s1 s2
    omega
  ·rw [set2_get k1 k2] at hne
   by_cases e1 : k = b
   ·exact .inr e1
   by_cases e2 : k = a
   ·exact .inl e2
   rw [if_neg e1, if_neg e2] at hne
   exact absurd rfl hne
  ·rw [set2_get k1 k2] at hne ⊢
   by_cases e1 : k = b
   ·subst e1
    rw [if_pos rfl] at hne ⊢
    exact ⟨h.wb, fun hn => absurd ho hn, fun _ => hsb, fun _ => ⟨hs, rfl⟩⟩
   by_cases e2 : k = a
   ·subst e2
    rw [if_neg e1, if_pos rfl] at hne ⊢
    exact ⟨h.wa, fun hn => absurd h2 hn, fun _ => h.sa, fun hn => absurd rfl hn⟩
   rw [if_neg e1, if_neg e2] at hne
   exact absurd rfl hne
 ·rw [actE1 ht] at hact
  rw [actL1 ht]
  have h1 := asE_ok hact
  refine ⟨by simp, ?_, by rw [hsp.1 ht]; decide, fun k k1 k2 hne => ?_, fun k k1 k2 k3 hne => ?_⟩
  ·have s1 := sumC_set hA { l[a] with owner := x.owner }
   simp only at s1
   omega
  ·rw [set1_get k1 k2] at hne
   by_cases e2 : k = a
   ·exact .inl e2
   rw [if_neg e2] at hne
   exact absurd rfl hne
  ·rw [set1_get k1 k2] at hne ⊢
   by_cases e2 : k = a
   ·subst e2
    rw [if_pos rfl] at hne ⊢
    exact ⟨h.wa, fun hn => absurd h1 hn, fun _ => h.sa, fun hn => absurd rfl hn⟩
   rw [if_neg e2] at hne
   exact absurd rfl hne
 ·rw [actE2 ht] at hact
  rw [actL2 ht]
  obtain ⟨h1, h2, h3, h4⟩ := mvE_ok hact
  unfold mvL
  by_cases hab : a = b
  ·rw [if_pos hab]
   exact ⟨rfl, rfl, by rw [hsp.2 ht]; decide, fun k _ _ hne => absurd rfl hne, fun k _ _ _ hne => absurd rfl hne⟩
  ·rw [if_neg hab]
   refine ⟨by simp, ?_, by rw [hsp.2 ht]; decide, fun k k1 k2 hne => ?_, fun k k1 k2 k3 hne => ?_⟩
   ·have s1 := sumC_set hA { l[a] with coins := l[a].coins - x.coins }
    have s2 := sumC_set (l := l.set a { l[a] with coins := l[a].coins - x.coins }) (i := b) (by simpa using hB) { l[b] with coins := l[b].coins + x.coins }
    rw [set1_get (by simpa using hB) hB, if_neg (fun e => hab e.symm)] at s2
    simp only at s1 s2
    omega
   ·rw [set2_get k1 k2] at hne
    by_cases e1 : k = b
    ·exact .inr e1
    by_cases e2 : k = a
    ·exact .inl e2
    rw [if_neg e1, if_neg e2] at hne
    exact absurd rfl hne
   ·rw [set2_get k1 k2] at hne ⊢
    by_cases e1 : k = b
    ·subst e1
     rw [if_pos rfl] at hne ⊢
     refine ⟨h.wb, fun hn => ⟨by simp only; omega, rfl⟩, fun hn => ?_, fun hn => absurd rfl hn⟩
     simp only [ne_eq, not_true_eq_false, or_false] at hn
     omega
    by_cases e2 : k = a
    ·subst e2
     rw [if_neg e1, if_pos rfl] at hne ⊢
     exact ⟨h.wa, fun hn => absurd h1 hn, fun _ => h.sa, fun hn => absurd rfl hn⟩
    rw [if_neg e1, if_neg e2] at hne
    exact absurd rfl hne
 ·rw [actE8 ht] at hact
  rw [actL8 ht]
  obtain ⟨h1, h2, h3⟩ := alE_ok hact
  refine ⟨by simp, ?_, h3, fun k k1 k2 hne => ?_, fun k k1 k2 k3 hne => ?_⟩
  ·have s1 := sumC_set hA { l[a] with space := x.space }
   simp only at s1
   omega
  ·rw [set1_get k1 k2] at hne
   by_cases e2 : k = a
   ·exact .inl e2
   rw [if_neg e2] at hne
   exact absurd rfl hne
  ·rw [set1_get k1 k2] at hne ⊢
   by_cases e2 : k = a
   ·subst e2
    rw [if_pos rfl] at hne ⊢
    exact ⟨h.wa, fun hn => absurd h1 hn, fun _ => h.sa, fun _ => ⟨h2, rfl⟩⟩
   rw [if_neg e2] at hne
   exact absurd rfl hne
theorem okW_of {w : World} {a : Account} (h : a.ok w) : okW a := by
 unfold Account.ok at h
 obtain ⟨h1, h2⟩ := h
 exact ⟨by omega, by omega⟩
theorem count_two {p : Nat → Bool} {a b : Nat} (h : ∀ k, p k = true → k = a ∨ k = b) : ∀ n, (List.range n).countP p ≤ (if a < n then 1 else 0) + (if b < n then 1 else 0)
 | 0 => by simp
 | n + 1 => by
  have ih := count_two h n
  rw [List.range_succ, List.countP_append, List.countP_singleton]
  have m1 : (if a < n then 1 else 0) ≤ (if a < n + 1 then 1 else (0 : Nat)) := by split <;> split <;> omega
  have m2 : (if b < n then 1 else 0) ≤ (if b < n + 1 then 1 else (0 : Nat)) := by split <;> split <;> omega
  by_cases hp : p n = true
  ·rw [if_pos hp]
   rcases h n hp with rfl | rfl
   ·rw [if_neg (Nat.lt_irrefl _)] at ih
    rw [if_pos (Nat.lt_succ_self _)]
    omega
   ·rw [if_neg (Nat.lt_irrefl _)] at ih
    rw [if_pos (Nat.lt_succ_self _)]
    omega
  ·rw [if_neg hp]; omega

end Go.Fer
