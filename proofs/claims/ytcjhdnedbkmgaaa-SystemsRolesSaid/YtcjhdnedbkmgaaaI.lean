/- instructions, sizes -/
import Derived.Test.YtcjhdnedbkmgaaaF
set_option linter.all false
namespace Go.Fer
open Go Go.Proofs Go.RowKit

def leB (n m : Nat) : List UInt8 := (List.range m).map fun i => UInt8.ofNat (n / 2 ^ (8 * i))
theorem leB_succ (n k : Nat) : leB n (k + 1) = leB n k ++ [UInt8.ofNat (n / 2 ^ (8 * k))] := by simp [leB, List.range_succ]
theorem leB_len (n k : Nat) : (leB n k).length = k := by simp [leB]

theorem leN_leB (n m : Nat) : leN (leB n m) = n % 2 ^ (8 * m) := by
  induction m with
  | zero => simp [leB, leN, Nat.mod_one]
  | succ m ih =>
    rw [leB_succ, leN_append, ih, leB_len]
    simp only [leN, UInt8.toNat_ofNat', Nat.mul_zero, Nat.add_zero]
    rw [show 8 * (m + 1) = 8 * m + 8 by omega, Nat.pow_add, Nat.mod_mul]
theorem shr_8k (n k : Nat) (hk : k ≤ 8) : Int.fdiv (n : Int) (2 ^ (min (Int.toNat (((8 * k : Nat) : Int))) IntKind.u64.bits)) = ((n / 2 ^ (8 * k) : Nat) : Int) := shr_nat (by simp only [IntKind.bits]; omega)
theorem by8m (n : Nat) : (n : Int) % 256 = ((UInt8.ofNat n).toNat : Int) := by simp
@[irreducible] def kk (c : UInt8) : Key := (vz 32).set 0 c
def bothL : List Role := [⟨kk 1, true, true⟩, ⟨kk 2, true, true⟩]
def mvD (n : Nat) : List UInt8 := leB 2 4 ++ leB n 8
theorem mvD_len (n : Nat) : (mvD n).length = 12 := by simp [mvD, leB_len]
theorem askF_mv {n : Nat} (h : n < 18446744073709551616) : askF (mvD n) = some ⟨2, n, 0, vz 32⟩ := by
  have h1 : (mvD n).take 4 = leB 2 4 := by unfold mvD; rw [List.take_append_of_le_length (by rw [leB_len]; exact Nat.le_refl _), List.take_of_length_le (by rw [leB_len]; exact Nat.le_refl _)]
  have h2 : (mvD n).drop 4 = leB n 8 := by unfold mvD; rw [List.drop_append_of_le_length (by rw [leB_len]; exact Nat.le_refl _), List.drop_of_length_le (by rw [leB_len]; exact Nat.le_refl _)]; rfl
  have h3 : (leB n 8).take 8 = leB n 8 := List.take_of_length_le (by rw [leB_len]; exact Nat.le_refl _)
  rw [askF2 (by rw [mvD_len]; decide) (by rw [h1, leN_leB]) (by rw [h2, leB_len]), h2, h3, leN_leB, Nat.mod_eq_of_lt (by simpa using h)]
def doX (l : List Account) (r : List Role) (ats : List UInt8) (x : Ask) : Int × Nat × List Account :=
  if takF x.tag r ats ≠ 0 then (takF x.tag r ats, 0, []) else
    let a := (ats.getD 0 0).toNat
    let b := (ats.getD (need x.tag - 1) 0).toNat
    if actE x (l.getD a az) (l.getD b az) (decide (a = b)) ≠ 0 then (actE x (l.getD a az) (l.getD b az) (decide (a = b)), 0, []) else (0, x.space, actL x l a b (l.getD a az) (l.getD b az))
theorem doF_x {l : List Account} {r : List Role} {ats dt : List UInt8} {x : Ask} (h : l.length = r.length) (hx : askF dt = some x) : doF l r ats dt = doX l r ats x := by
  unfold doF doX; rw [if_neg (fun e => e h), hx]
def livL : List Account := [⟨10, vz 32, 0⟩, az]
def livR : List Role := [⟨kk 1, true, true⟩, ⟨kk 2, false, true⟩]
theorem liv_set : bothL.set 1 ⟨kk 2, false, true⟩ = livR := rfl
theorem liv3 : doF livL livR [0, 1] (mvD 3) = (0, 0, [⟨7, vz 32, 0⟩, ⟨3, vz 32, 0⟩]) := by
  rw [doF_x rfl (askF_mv (by decide))]
  have h : takF 2 livR [0, 1] = 0 := by
    simp [takF, need, lacks, livR, roleErrs, roleErr]
  unfold doX
  simp only
  rw [if_neg (by rw [h]; decide)]
  decide +kernel
theorem liv11 : doF livL livR [0, 1] (mvD 11) = (17, 0, []) := by
  rw [doF_x rfl (askF_mv (by decide))]
  have h : takF 2 livR [0, 1] = 0 := by
    simp [takF, need, lacks, livR, roleErrs, roleErr]
  unfold doX
  simp only
  rw [if_neg (by rw [h]; decide)]
  decide +kernel
theorem livLong : doF livL livR [0, 1] (mvD 3 ++ [0]) = (13, 0, []) := doF_none rfl (by decide +kernel)
theorem livL_ok : ∀ y ∈ livL, okW y := by
  intro y hy
  simp only [livL, List.mem_cons, List.not_mem_nil, or_false] at hy
  rcases hy with rfl | rfl <;> exact ⟨by decide, by decide⟩

theorem number14 (w0 : World) (n many : Nat) (hn : n < 18446744073709551616) (hm8 : many ≤ 8) : Ret Try.prog 22 #[.int .u64 ((n : Nat) : Int), .int .i64 (many : Int)] w0 (fun u w' => New w0 w' u 5 (leB n many) ∧ Bel w0 w') := by
  refine Ret.enter (args := [.int .u64 ((n : Nat) : Int), .int .i64 (many : Int)]) Try.func22 rfl Try.ntmps22 Try.results22 rfl ?_
  have hS := St.start w0
  refine WC.seq (fun K1 hK1 => ?_)
  refine WC.region ?_
  refine WL.op rfl (opW.assignV (v := .slice none 0 0) rfl ?_)
  refine WL.nil ?_
  refine thenQ_n (hK1 _ _ ?_)
  refine WC.seq (fun K2 hK2 => ?_)
  refine WC.region ?_
  refine WL.op rfl (opW.assignV (v := .slice none 0 0) rfl ?_)
  refine WL.nil ?_
  refine thenQ_n (hK2 _ _ ?_)
  refine WC.seq (fun K3 hK3 => ?_)
  refine WC.seq (fun K4 hK4 => ?_)
  refine WC.region ?_
  refine WL.op rfl (opW.assignI rfl ?_)
  refine WL.nil ?_
  refine thenQ_n (hK4 _ _ ?_)
  refine WC.block ?_
  refine WC.loop (fun q f w => ∃ (k : Nat) (vo : Value), Fits [(0, .int .u64 ((n : Nat) : Int)), (1, .int .i64 (many : Int)), (5, vo), (6, .int .i64 (k : Int))] f ∧ St w0 [ownE vo 5 (leB n k)] w ∧ k ≤ many ∧ q = many - k) (many) ?_ ?_
  ·
    exact ⟨0, .slice none 0 0, ⟨rfl, rfl, rfl, rfl, trivial⟩, hS.nilOwn _, Nat.zero_le _, rfl⟩
  ·
    rintro q f w ⟨k, vo, hfit, hS, hk0, hmm⟩
    refine WC.fits _ hfit (fun g => ?_)
    clear hfit
    refine WC.seq (fun K5 hK5 => ?_)
    refine WC.seq (fun K6 hK6 => ?_)
    refine WC.region ?_
    refine WL.op rfl (opW.moveI rfl ?_)
    refine WL.op rfl (opW.moveI rfl ?_)
    refine WL.op rfl (opW.lss rfl rfl ?_)
    refine WL.nil ?_
    refine thenQ_n (hK6 _ _ ?_)
    refine WC.cond _ rfl (fun hc0 => ?_) (fun hc0 => ?_)
    ·
      have hr0 := hc0
      try simp only [decide_eq_true_eq, decide_eq_false_iff_not, Bool.and_eq_true, Bool.or_eq_true, Bool.and_eq_false_iff, Bool.or_eq_false_iff, Bool.not_eq_true', Bool.not_eq_false', Int.not_lt, Int.not_le] at hc0
      have hkl : k < many := by omega
      have hll := leB_len n k
      have hdn : n / 2 ^ (8 * k) < 18446744073709551616 := Nat.lt_of_le_of_lt (Nat.div_le_self _ _) hn
      refine WC.skip ?_
      refine thenQ_n (hK5 _ _ ?_)
      refine WC.seq (fun K7 hK7 => ?_)
      refine WC.block ?_
      refine WC.region ?_
      refine WL.op rfl (opW.moveV (v := vo) rfl ?_)
      refine WL.op rfl (opW.moveI rfl ?_)
      refine WL.op rfl (opW.moveI rfl ?_)
      refine WL.op rfl (opW.mul rfl rfl (show IntKind.i64.wrap _ = ((8 * k : Nat) : Int) from (wrap_i64 (by omega)).trans (by omega)) ?_)
      refine WL.op rfl (opW.conv rfl (wrap_u64 (by omega)) ?_)
      refine WL.op rfl (opW.shr rfl rfl (by omega) (shr_8k n k (by omega)) ?_)
      refine WL.op rfl (opW.conv rfl ((wrap_u8_mod _).trans (by8m _)) ?_)
      refine WL.op rfl (opW.buildSl hS (([UInt8.ofNat (n / 2 ^ (8 * k))] : List UInt8)) [.int .u8 ((UInt8.ofNat (n / 2 ^ (8 * k))).toNat : Int)] rfl rfl rfl rfl (by decide) ?_)
      intro b19 w hw hS
      refine WL.op rfl (opW.appendOwn (α := UInt8) rfl hS rfl (by first | exact .h0 | exact .h1 | exact .h2 | exact .h3 | exact .h4 | exact .h5 | exact .h6 | exact .h7 | exact .h8 | exact .h9 | exact .h10 | exact .h11 | exact .h12 | exact .h13 | exact .h14) (hS.sl (by first | exact .h0 | exact .h1 | exact .h2 | exact .h3 | exact .h4 | exact .h5 | exact .h6 | exact .h7 | exact .h8 | exact .h9 | exact .h10 | exact .h11 | exact .h12 | exact .h13 | exact .h14)) (by simp only [List.length_cons, List.length_nil]; omega) (by simp only [maxLen]; simp only [List.length_cons, List.length_nil]; omega) ?_)
      intro v20 w hS; replace hS := hS _ (by first | exact .h0 | exact .h1 | exact .h2 | exact .h3 | exact .h4 | exact .h5 | exact .h6 | exact .h7 | exact .h8 | exact .h9 | exact .h10 | exact .h11 | exact .h12 | exact .h13 | exact .h14)
      refine WL.op rfl (opW.assignV (v := v20) rfl ?_)
      refine WL.nil ?_
      refine blockQ_n ?_
      refine thenQ_n (hK7 _ _ ?_)
      refine WC.region ?_
      refine WL.op rfl (opW.moveI rfl ?_)
      refine WL.op rfl (opW.add rfl rfl (wrap_i64 (by omega)) ?_)
      refine WL.op rfl (opW.assignI rfl ?_)
      refine WL.nil ?_
      refine thenQ_n ?_
      exact ⟨many - (k + 1), by omega, k + 1, v20, ⟨rfl, rfl, rfl, congrArg (Value.int .i64) (by omega), trivial⟩, (by rw [leB_succ]; exact hS.sub (by repeat (first | with_reducible exact List.nil_sublist _ | with_reducible exact List.Sublist.refl _ | with_reducible refine List.Sublist.cons₂ _ ?_ | with_reducible refine List.Sublist.cons _ ?_))), by omega, rfl⟩
    ·
      have hr0 := hc0
      try simp only [decide_eq_true_eq, decide_eq_false_iff_not, Bool.and_eq_true, Bool.or_eq_true, Bool.and_eq_false_iff, Bool.or_eq_false_iff, Bool.not_eq_true', Bool.not_eq_false', Int.not_lt, Int.not_le] at hc0
      obtain rfl : k = many := by omega
      refine WC.exit ?_
      refine thenQ_e ?_
      refine thenQ_e ?_
      refine blockQ_hit ?_
      refine thenQ_n (hK3 _ _ ?_)
      refine WC.seq (fun K8 hK8 => ?_)
      refine WC.region ?_
      refine WL.op rfl (opW.moveV (v := vo) rfl ?_)
      refine WL.op rfl (opW.assignV (v := vo) rfl ?_)
      refine WL.nil ?_
      refine thenQ_n (hK8 _ _ ?_)
      refine WC.ret ?_
      refine bodyQ_ret (.tmpV (v := vo) rfl .nil) ?_
      exact ⟨hS.own_new (by first | exact .h0 | exact .h1 | exact .h2 | exact .h3 | exact .h4 | exact .h5 | exact .h6 | exact .h7 | exact .h8 | exact .h9 | exact .h10 | exact .h11 | exact .h12 | exact .h13 | exact .h14), hS.old⟩

theorem both14 (w0 : World) : Ret Try.prog 20 #[] w0 (fun u w' => New w0 w' u 50 bothL ∧ Bel w0 w') := by
  refine Ret.enter (args := []) Try.func20 rfl Try.ntmps20 Try.results20 rfl ?_
  have hS := St.start w0
  refine WC.seq (fun K1 hK1 => ?_)
  refine WC.region ?_
  refine WL.op rfl (opW.assignV (v := .slice none 0 0) rfl ?_)
  refine WL.nil ?_
  refine thenQ_n (hK1 _ _ ?_)
  refine WC.seq (fun K2 hK2 => ?_)
  refine WC.region ?_
  refine WL.op rfl (opW.buildVec (k := (kk 1)) (by first | rfl | (simp only [sysK, az, kk, enc_vset, enc_vz]; rfl)) (by intro p hp; first | (exfalso; simp at hp; done) | (simp only [List.map_cons, List.map_nil, List.mem_cons, List.not_mem_nil, or_false] at hp; rcases hp with rfl | rfl | rfl | rfl <;> exact ⟨by simp, rfl⟩)) ?_)
  refine WL.op rfl (opW.buildE (r := ((⟨kk 1, true, true⟩ : Role) : Role)) (ps := Role.parts ((⟨kk 1, true, true⟩ : Role) : Role)) (Role.enc_eq _) (by first | (simp only [sysK, az, kk, enc_vset, enc_vz, Account.enc_eq, Account.parts, Role.enc_eq, Role.parts, Instr.enc_eq, Instr.parts, Ask.enc_eq, Ask.parts, Cut.enc_eq, Cut.parts, PairS.enc_eq, PairS.parts, RAsk.enc_eq, RAsk.parts, LAsk.enc_eq, LAsk.parts]; rfl) | rfl) (by (repeat' (first | exact trivial | refine And.intro ?_ ?_)) <;> first | rfl | exact Enc.size_eq _ | (simp; done)) ?_)
  refine WL.op rfl (opW.buildVec (k := (kk 2)) (by first | rfl | (simp only [sysK, az, kk, enc_vset, enc_vz]; rfl)) (by intro p hp; first | (exfalso; simp at hp; done) | (simp only [List.map_cons, List.map_nil, List.mem_cons, List.not_mem_nil, or_false] at hp; rcases hp with rfl | rfl | rfl | rfl <;> exact ⟨by simp, rfl⟩)) ?_)
  refine WL.op rfl (opW.buildE (r := ((⟨kk 2, true, true⟩ : Role) : Role)) (ps := Role.parts ((⟨kk 2, true, true⟩ : Role) : Role)) (Role.enc_eq _) (by first | (simp only [sysK, az, kk, enc_vset, enc_vz, Account.enc_eq, Account.parts, Role.enc_eq, Role.parts, Instr.enc_eq, Instr.parts, Ask.enc_eq, Ask.parts, Cut.enc_eq, Cut.parts, PairS.enc_eq, PairS.parts, RAsk.enc_eq, RAsk.parts, LAsk.enc_eq, LAsk.parts]; rfl) | rfl) (by (repeat' (first | exact trivial | refine And.intro ?_ ?_)) <;> first | rfl | exact Enc.size_eq _ | (simp; done)) ?_)
  refine WL.op rfl (opW.buildSl hS ((bothL : List Role)) [.agg (Enc.enc (⟨kk 1, true, true⟩ : Role)), .agg (Enc.enc (⟨kk 2, true, true⟩ : Role))] rfl rfl rfl rfl (by decide) ?_)
  intro b5 w hw hS
  refine WL.op rfl (opW.assignV (v := .slice (some ⟨b5, 0, none⟩) 2 2) rfl ?_)
  refine WL.nil ?_
  refine thenQ_n (hK2 _ _ ?_)
  refine WC.ret ?_
  refine bodyQ_ret (.tmpV (v := .slice (some ⟨b5, 0, none⟩) 2 2) rfl .nil) ?_
  exact ⟨hS.own_new (by first | exact .h0 | exact .h1 | exact .h2 | exact .h3 | exact .h4 | exact .h5 | exact .h6 | exact .h7 | exact .h8 | exact .h9 | exact .h10 | exact .h11 | exact .h12 | exact .h13 | exact .h14), hS.old⟩

theorem move14 (w0 : World) (n : Nat) (hn : n < 18446744073709551616) : Ret Try.prog 21 #[.int .u64 ((n : Nat) : Int)] w0 (fun u w' => ∃ va vd : SlV, u = .agg (Enc.enc (⟨1, va, vd⟩ : Instr)) ∧ St w0 [ownE vd.v 5 (mvD n), ownE va.v 5 ([0, 1] : List UInt8)] w') := by
  refine Ret.enter (args := [.int .u64 ((n : Nat) : Int)]) Try.func21 rfl Try.ntmps21 Try.results21 rfl ?_
  have hS := St.start w0
  refine WC.seq (fun K1 hK1 => ?_)
  refine WC.region ?_
  refine WL.op rfl (opW.allocA hS ?_)
  intro b2 w _ hS
  refine WL.nil ?_
  refine thenQ_n (hK1 _ _ ?_)
  refine WC.seq (fun K2 hK2 => ?_)
  refine WC.region ?_
  refine WL.op rfl (opW.buildSl hS (([0, 1] : List UInt8)) [.int .u8 0, .int .u8 1] rfl rfl rfl rfl (by decide) ?_)
  intro b3 w hw hS
  refine WL.op rfl (opW.call (number14 _ 2 4 (by decide) (by decide)) rfl ?_)
  rintro v4 w ⟨hn4, hw⟩; replace hS := hS.newOwn hw hn4.1 hn4.2
  refine WL.op rfl (opW.moveI rfl ?_)
  refine WL.op rfl (opW.call (number14 _ n 8 hn (by decide)) rfl ?_)
  rintro v6 w ⟨hn6, hw⟩; replace hS := hS.newOwn hw hn6.1 hn6.2
  refine WL.op rfl (opW.appendOwn (α := UInt8) (v := v4) (xs := leB 2 4) rfl hS rfl (by first | exact .h0 | exact .h1 | exact .h2 | exact .h3 | exact .h4 | exact .h5 | exact .h6 | exact .h7 | exact .h8 | exact .h9 | exact .h10 | exact .h11 | exact .h12 | exact .h13 | exact .h14) (hS.sl (v := v6) (xs := leB n 8) (by first | exact .h0 | exact .h1 | exact .h2 | exact .h3 | exact .h4 | exact .h5 | exact .h6 | exact .h7 | exact .h8 | exact .h9 | exact .h10 | exact .h11 | exact .h12 | exact .h13 | exact .h14)) (by simp only [leB_len]; omega) (by simp only [maxLen, leB_len]; omega) ?_)
  intro v7 w hS; replace hS := hS _ (by first | exact .h0 | exact .h1 | exact .h2 | exact .h3 | exact .h4 | exact .h5 | exact .h6 | exact .h7 | exact .h8 | exact .h9 | exact .h10 | exact .h11 | exact .h12 | exact .h13 | exact .h14)
  obtain ⟨sd, rfl⟩ := (hS.sl (v := v7) (xs := leB 2 4 ++ leB n 8) (by first | exact .h0 | exact .h1 | exact .h2 | exact .h3 | exact .h4 | exact .h5 | exact .h6 | exact .h7 | exact .h8 | exact .h9 | exact .h10 | exact .h11 | exact .h12 | exact .h13 | exact .h14)).asV
  refine WL.op rfl (opW.buildE (r := ((⟨1, ⟨some ⟨b3, 0, none⟩, 2, 2⟩, sd⟩ : Instr) : Instr)) (ps := Instr.parts ((⟨1, ⟨some ⟨b3, 0, none⟩, 2, 2⟩, sd⟩ : Instr) : Instr)) (Instr.enc_eq _) (by first | rfl | (simp only [sysK, az, kk, enc_vset, enc_vz, Account.enc_eq, Account.parts, Role.enc_eq, Role.parts, Instr.enc_eq, Instr.parts, Ask.enc_eq, Ask.parts, Cut.enc_eq, Cut.parts, PairS.enc_eq, PairS.parts, RAsk.enc_eq, RAsk.parts, LAsk.enc_eq, LAsk.parts]; rfl)) (by (repeat' (first | exact trivial | refine And.intro ?_ ?_)) <;> first | rfl | exact Enc.size_eq _ | (simp; done)) ?_)
  refine WL.op0 (opW.storeE hS rfl rfl (by first | exact .h0 | exact .h1 | exact .h2 | exact .h3 | exact .h4 | exact .h5 | exact .h6 | exact .h7 | exact .h8 | exact .h9 | exact .h10 | exact .h11 | exact .h12 | exact .h13 | exact .h14) (by first | rfl | exact Enc.size_eq _) ?_)
  intro w hS; replace hS := hS _ (by first | exact .h0 | exact .h1 | exact .h2 | exact .h3 | exact .h4 | exact .h5 | exact .h6 | exact .h7 | exact .h8 | exact .h9 | exact .h10 | exact .h11 | exact .h12 | exact .h13 | exact .h14)
  refine WL.nil ?_
  refine thenQ_n (hK2 _ _ ?_)
  refine WC.ret ?_
  refine bodyQ_ret (.cell (hS.ldA (by first | exact .h0 | exact .h1 | exact .h2 | exact .h3 | exact .h4 | exact .h5 | exact .h6 | exact .h7 | exact .h8 | exact .h9 | exact .h10 | exact .h11 | exact .h12 | exact .h13 | exact .h14) (Enc.size_eq (⟨1, ⟨some ⟨b3, 0, none⟩, 2, 2⟩, sd⟩ : Instr))) .nil) ?_
  exact ⟨⟨some ⟨b3, 0, none⟩, 2, 2⟩, sd, rfl, hS.sub (.cons _ (.cons₂ _ (.cons₂ _ (.cons _ (List.Sublist.refl _)))))⟩

theorem great14 (w0 : World) (q : LAsk) (l : List Account) (r : List Role) (ats dt : List UInt8) (hl : SlR w0 q.l.v l) (hr : SlR w0 q.r.v r) (ha : SlR w0 q.in_.accounts.v ats) (hd : SlR w0 q.in_.data.v dt) : Ret Try.prog 8 #[.agg (Enc.enc q)] w0 (fun u w' => ∃ b, u = .bool b ∧ (b = false → l.length ≤ 200 ∧ r.length ≤ 200 ∧ ats.length ≤ 300 ∧ dt.length ≤ 1000) ∧ Bel w0 w') := by
  refine Ret.enter (args := [.agg (Enc.enc q)]) Try.func8 rfl Try.ntmps8 Try.results8 rfl ?_
  have hS := St.start w0
  refine WC.seq (fun K1 hK1 => ?_)
  refine WC.region ?_
  refine WL.op rfl (opW.boxA hS rfl ?_)
  intro b1 w _ hS
  refine WL.op rfl (opW.assignB rfl ?_)
  refine WL.nil ?_
  refine thenQ_n (hK1 _ _ ?_)
  refine WC.seq (fun K2 hK2 => ?_)
  refine WC.region ?_
  refine WL.op rfl (opW.fieldAddrB rfl ?_)
  refine WL.op rfl (opW.loadV rfl (hS.ld1 (by first | exact .h0 | exact .h1 | exact .h2 | exact .h3 | exact .h4 | exact .h5 | exact .h6 | exact .h7 | exact .h8 | exact .h9 | exact .h10 | exact .h11 | exact .h12 | exact .h13 | exact .h14) (LAsk.at_l q)) ?_)
  refine WL.op rfl (opW.lenV rfl ((hl.bel hS.old)) ?_)
  refine WL.op rfl (opW.gtr rfl rfl ?_)
  refine WL.op rfl (opW.moveB rfl ?_)
  refine WL.gd _ 7 _ rfl rfl rfl rfl (fun hg8 => opW.fieldAddrB rfl ⟨rfl, Bel.refl _⟩) (fun w hw => ?_)
  replace hS := hS.bel hw
  refine WL.gd _ 7 _ rfl rfl rfl rfl (fun hg9 => opW.loadV (by first | exact gv_of rfl hg9 | rfl) (hS.ld1 (by first | exact .h0 | exact .h1 | exact .h2 | exact .h3 | exact .h4 | exact .h5 | exact .h6 | exact .h7 | exact .h8 | exact .h9 | exact .h10 | exact .h11 | exact .h12 | exact .h13 | exact .h14) (LAsk.at_r q)) ⟨rfl, Bel.refl _⟩) (fun w hw => ?_)
  replace hS := hS.bel hw
  refine WL.gd _ 7 _ rfl rfl rfl rfl (fun hg10 => opW.lenV (by first | exact gv_of rfl hg10 | rfl) ((hr.bel hS.old)) ⟨rfl, Bel.refl _⟩) (fun w hw => ?_)
  replace hS := hS.bel hw
  refine WL.gd _ 7 _ rfl rfl rfl rfl (fun hg11 => opW.gtr (by first | exact gv_of rfl hg11 | rfl) rfl ⟨rfl, Bel.refl _⟩) (fun w hw => ?_)
  replace hS := hS.bel hw
  refine WL.op rfl (opW.pickOr rfl rfl (by first | rfl) ?_)
  refine WL.op rfl (opW.moveB rfl ?_)
  refine WL.gd _ 13 _ rfl rfl rfl rfl (fun hg14 => opW.fieldAddrB rfl ⟨rfl, Bel.refl _⟩) (fun w hw => ?_)
  replace hS := hS.bel hw
  refine WL.gd _ 13 _ rfl rfl rfl rfl (fun hg15 => opW.fieldAddrB (by first | exact gv_of rfl hg15 | rfl) ⟨rfl, Bel.refl _⟩) (fun w hw => ?_)
  replace hS := hS.bel hw
  refine WL.gd _ 13 _ rfl rfl rfl rfl (fun hg16 => opW.loadV (by first | exact gv_of rfl hg16 | rfl) (hS.ld1 (by first | exact .h0 | exact .h1 | exact .h2 | exact .h3 | exact .h4 | exact .h5 | exact .h6 | exact .h7 | exact .h8 | exact .h9 | exact .h10 | exact .h11 | exact .h12 | exact .h13 | exact .h14) (LAsk.at_in__accounts q)) ⟨rfl, Bel.refl _⟩) (fun w hw => ?_)
  replace hS := hS.bel hw
  refine WL.gd _ 13 _ rfl rfl rfl rfl (fun hg17 => opW.lenV (by first | exact gv_of rfl hg17 | rfl) ((ha.bel hS.old)) ⟨rfl, Bel.refl _⟩) (fun w hw => ?_)
  replace hS := hS.bel hw
  refine WL.gd _ 13 _ rfl rfl rfl rfl (fun hg18 => opW.gtr (by first | exact gv_of rfl hg18 | rfl) rfl ⟨rfl, Bel.refl _⟩) (fun w hw => ?_)
  replace hS := hS.bel hw
  refine WL.op rfl (opW.pickOr rfl rfl (by first | rfl) ?_)
  refine WL.op rfl (opW.moveB rfl ?_)
  refine WL.gd _ 20 _ rfl rfl rfl rfl (fun hg21 => opW.fieldAddrB rfl ⟨rfl, Bel.refl _⟩) (fun w hw => ?_)
  replace hS := hS.bel hw
  refine WL.gd _ 20 _ rfl rfl rfl rfl (fun hg22 => opW.fieldAddrB (by first | exact gv_of rfl hg22 | rfl) ⟨rfl, Bel.refl _⟩) (fun w hw => ?_)
  replace hS := hS.bel hw
  refine WL.gd _ 20 _ rfl rfl rfl rfl (fun hg23 => opW.loadV (by first | exact gv_of rfl hg23 | rfl) (hS.ld1 (by first | exact .h0 | exact .h1 | exact .h2 | exact .h3 | exact .h4 | exact .h5 | exact .h6 | exact .h7 | exact .h8 | exact .h9 | exact .h10 | exact .h11 | exact .h12 | exact .h13 | exact .h14) (LAsk.at_in__data q)) ⟨rfl, Bel.refl _⟩) (fun w hw => ?_)
  replace hS := hS.bel hw
  refine WL.gd _ 20 _ rfl rfl rfl rfl (fun hg24 => opW.lenV (by first | exact gv_of rfl hg24 | rfl) ((hd.bel hS.old)) ⟨rfl, Bel.refl _⟩) (fun w hw => ?_)
  replace hS := hS.bel hw
  refine WL.gd _ 20 _ rfl rfl rfl rfl (fun hg25 => opW.gtr (by first | exact gv_of rfl hg25 | rfl) rfl ⟨rfl, Bel.refl _⟩) (fun w hw => ?_)
  replace hS := hS.bel hw
  refine WL.op rfl (opW.pickOr rfl rfl (by first | rfl) ?_)
  refine WL.op rfl (opW.assignB rfl ?_)
  refine WL.nil ?_
  refine thenQ_n (hK2 _ _ ?_)
  refine WC.ret ?_
  refine bodyQ_ret (.tmpB rfl .nil) ?_
  refine ⟨_, rfl, fun hb => ?_, hS.old⟩
  simp only [Bool.or_eq_false_iff, decide_eq_false_iff_not] at hb
  omega

end Go.Fer
