/- signatures, transactions, twins -/
import Derived.Test.YtmibkfdpgmohfaaGreatDoorP
set_option linter.all false
namespace Go.Fer
open Go Go.Proofs Go.RowKit

theorem same_s (w0 : World) (v u : Value) (xs ys : List (Vector UInt8 64)) (hx : SlR w0 v xs) (hy : SlR w0 u ys) : Ret Tryz.prog 81 #[v, u] w0 (fun r w' => r = .bool (decide (xs = ys)) ∧ Bel w0 w') := by
 refine Ret.enter (args := [v, u]) Tryz.func81 rfl Tryz.ntmps81 Tryz.results81 rfl ?_
 have hS := St.start w0
 refine WC.seq (fun K1 hK1 => ?_)
 refine WC.region ?_
 refine WL.op rfl (opW.assignB rfl ?_)
 refine WL.nil ?_
 refine thenQ_n (hK1 _ _ ?_)
 refine WC.seq (fun K2 hK2 => ?_)
 refine WC.seq (fun K3 hK3 => ?_)
 refine WC.region ?_
 refine WL.op rfl (opW.moveV (v := v) rfl ?_)
 refine WL.op rfl (opW.lenV rfl ((hx.bel hS.old)) ?_)
 refine WL.op rfl (opW.moveV (v := u) rfl ?_)
 refine WL.op rfl (opW.lenV rfl ((hy.bel hS.old)) ?_)
 refine WL.op rfl (opW.neq rfl rfl ?_)
 refine WL.nil ?_
 refine thenQ_n (hK3 _ _ ?_)
 refine WC.cond _ rfl (fun hc0 => ?_) (fun hc0 => ?_)
 ·
  have hr0 := hc0
  try simp only [sq1,sq2,sq3,sq4,sq5,sq6,sq7,sq8,sq9,sq0] at hc0
  refine WC.seq (fun K4 hK4 => ?_)
  refine WC.region ?_
  refine WL.op rfl (opW.assignB rfl ?_)
  refine WL.nil ?_
  refine thenQ_n (hK4 _ _ ?_)
  refine WC.ret ?_
  refine thenQ_r ?_
  refine bodyQ_ret (.tmpB rfl .nil) ?_
  refine ⟨?_, hS.old⟩
  rw [decide_eq_false (fun e => hc0 (by rw [e]))]
  rfl
 ·
  have hr0 := hc0
  try simp only [sq1,sq2,sq3,sq4,sq5,sq6,sq7,sq8,sq9,sq0] at hc0
  have hlen : xs.length = ys.length := by omega
  refine WC.skip ?_
  refine thenQ_n (hK2 _ _ ?_)
  refine WC.seq (fun K5 hK5 => ?_)
  refine WC.seq (fun K6 hK6 => ?_)
  refine WC.region ?_
  refine WL.op rfl (opW.assignI rfl ?_)
  refine WL.nil ?_
  refine thenQ_n (hK6 _ _ ?_)
  refine WC.block ?_
  refine WC.loop (fun m f w => ∃ k : Nat, Fits [(0, v), (1, u), (5, .int .i64 (k : Int))] f ∧ St w0 [] w ∧ xs.take k = ys.take k ∧ m = xs.length - k) (xs.length) ?_ ?_
  ·
   exact ⟨0, ⟨rfl, rfl, rfl, trivial⟩, hS, rfl, rfl⟩
  ·
   rintro m f w ⟨k, hfit, hS, ht, hm⟩
   refine WC.fits _ hfit (fun g => ?_)
   clear hfit
   refine WC.seq (fun K7 hK7 => ?_)
   refine WC.seq (fun K8 hK8 => ?_)
   refine WC.region ?_
   refine WL.op rfl (opW.moveI rfl ?_)
   refine WL.op rfl (opW.moveV (v := v) rfl ?_)
   refine WL.op rfl (opW.lenV rfl ((hx.bel hS.old)) ?_)
   refine WL.op rfl (opW.lss rfl rfl ?_)
   refine WL.nil ?_
   refine thenQ_n (hK8 _ _ ?_)
   refine WC.cond _ rfl (fun hc1 => ?_) (fun hc1 => ?_)
   ·
    have hr1 := hc1
    try simp only [sq1,sq2,sq3,sq4,sq5,sq6,sq7,sq8,sq9,sq0] at hc1
    have hk1 : k < xs.length := by omega
    have hk2 : k < ys.length := by omega
    have hle := hx.le
    simp only [maxLen] at hle
    refine WC.skip ?_
    refine thenQ_n (hK7 _ _ ?_)
    refine WC.seq (fun K9 hK9 => ?_)
    refine WC.block ?_
    refine WC.seq (fun K10 hK10 => ?_)
    refine WC.draw 9 (.look 0 (.look 1 (.look 2 (.look 3 (.look 4 (.look 5 (.look 6 (.look 7 (.look 8 .nil))))))))) (by kernel_rfl) (fun _ _ _ h => h) (fun w1 hw1 => ?_)
    replace hS := hS.bel hw1
    have hS1 := hS
    have hT := St.start w1
    refine ML.look rfl rfl rfl (fun w hw => (by have hS := hS1.bel hw; exact opW.moveV (v := v) rfl ⟨rfl, rfl⟩)) ?_
    refine ML.look rfl rfl rfl (fun w hw => (by have hS := hS1.bel hw; exact opW.moveI rfl ⟨rfl, rfl⟩)) ?_
    refine ML.look rfl rfl rfl (fun w hw => (by have hS := hS1.bel hw; exact opW.idxV rfl ((hx.bel hS.old)) rfl (by omega) ⟨rfl, rfl⟩)) ?_
    refine ML.look rfl rfl rfl (fun w hw => (by have hS := hS1.bel hw; exact opW.loadV rfl ((((hx.bel hS.old).isPt hk1).ldA (Enc.size_eq _))) ⟨rfl, rfl⟩)) ?_
    refine ML.look rfl rfl rfl (fun w hw => (by have hS := hS1.bel hw; exact opW.moveV (v := u) rfl ⟨rfl, rfl⟩)) ?_
    refine ML.look rfl rfl rfl (fun w hw => (by have hS := hS1.bel hw; exact opW.moveI rfl ⟨rfl, rfl⟩)) ?_
    refine ML.look rfl rfl rfl (fun w hw => (by have hS := hS1.bel hw; exact opW.idxV rfl ((hy.bel hS.old)) rfl (by omega) ⟨rfl, rfl⟩)) ?_
    refine ML.look rfl rfl rfl (fun w hw => (by have hS := hS1.bel hw; exact opW.loadV rfl ((((hy.bel hS.old).isPt hk2).ldA (Enc.size_eq _))) ⟨rfl, rfl⟩)) ?_
    refine ML.look rfl rfl rfl (fun w hw => (by have hS := hS1.bel hw; exact opW.neqE rfl rfl ⟨rfl, rfl⟩)) ?_
    refine ML.nil ?_
    refine thenQ_n (hK10 _ _ ?_)
    refine WC.cond _ rfl (fun hc2 => ?_) (fun hc2 => ?_)
    ·
     have hr2 := hc2
     try simp only [sq1,sq2,sq3,sq4,sq5,sq6,sq7,sq8,sq9,sq0] at hc2
     refine WC.seq (fun K11 hK11 => ?_)
     refine WC.region ?_
     refine WL.op rfl (opW.assignB rfl ?_)
     refine WL.nil ?_
     refine thenQ_n (hK11 _ _ ?_)
     refine WC.ret ?_
     refine blockQ_r ?_
     refine thenQ_r ?_
     refine thenQ_r ?_
     refine blockQ_r ?_
     refine thenQ_r ?_
     refine bodyQ_ret (.tmpB rfl .nil) ?_
     refine ⟨?_, hS.old⟩
     rw [decide_eq_false (get_ne hk1 hk2 (hc2))]
     rfl
    ·
     have hr2 := hc2
     try simp only [sq1,sq2,sq3,sq4,sq5,sq6,sq7,sq8,sq9,sq0] at hc2
     refine WC.skip ?_
     refine blockQ_n ?_
     refine thenQ_n (hK9 _ _ ?_)
     refine WC.region ?_
     refine WL.op rfl (opW.moveI rfl ?_)
     refine WL.op rfl (opW.add rfl rfl (wrap_i64 (by omega)) ?_)
     refine WL.op rfl (opW.assignI rfl ?_)
     refine WL.nil ?_
     refine thenQ_n ?_
     refine ⟨xs.length - (k + 1), by omega, k + 1, ⟨rfl, rfl, congrArg (Value.int .i64) (by omega), trivial⟩, hS, take_succ_eq ht hk1 hk2 (hc2), rfl⟩
   ·
    have hr1 := hc1
    try simp only [sq1,sq2,sq3,sq4,sq5,sq6,sq7,sq8,sq9,sq0] at hc1
    refine WC.exit ?_
    refine thenQ_e ?_
    refine thenQ_e ?_
    refine blockQ_hit ?_
    refine thenQ_n (hK5 _ _ ?_)
    refine WC.seq (fun K12 hK12 => ?_)
    refine WC.region ?_
    refine WL.op rfl (opW.assignB rfl ?_)
    refine WL.nil ?_
    refine thenQ_n (hK12 _ _ ?_)
    refine WC.ret ?_
    refine bodyQ_ret (.tmpB rfl .nil) ?_
    refine ⟨?_, hS.old⟩
    rw [decide_eq_true (take_all_eq hlen ht (by omega))]
    rfl

@[irreducible] def markS : Vector UInt8 64 := ((vz 64).set 0 165).set 1 90

theorem markSig_ok (w0 : World) : Ret Tryz.prog 48 #[] w0 (fun u w' => u = .agg (Enc.enc markS) ∧ Bel w0 w') := by
 refine Ret.enter (args := []) Tryz.func48 rfl Tryz.ntmps48 Tryz.results48 rfl ?_
 have hS := St.start w0
 refine WC.seq (fun K1 hK1 => ?_)
 refine WC.region ?_
 refine WL.op rfl (opW.allocA hS ?_)
 intro b0 w _ hS
 refine WL.nil ?_
 refine thenQ_n (hK1 _ _ ?_)
 refine WC.seq (fun K2 hK2 => ?_)
 refine WC.region ?_
 refine WL.op rfl (opW.buildVec (k := markS) (by first | rfl | (simp only [sysK, az, markK, markS, enc_vset, enc_vz]; rfl)) (by intro p hp; first | (exfalso; simp at hp; done) | (simp only [List.map_cons, List.map_nil, List.mem_cons, List.not_mem_nil, or_false] at hp; rcases hp with rfl | rfl | rfl | rfl <;> exact ⟨by simp, rfl⟩)) ?_)
 refine WL.op0 (opW.storeE hS rfl rfl (by repeat constructor) (by first | rfl | exact Enc.size_eq _) ?_)
 intro w hS; replace hS := hS _ (by repeat constructor)
 refine WL.nil ?_
 refine thenQ_n (hK2 _ _ ?_)
 refine WC.ret ?_
 refine bodyQ_ret (.cell (hS.ldA (by repeat constructor) (Enc.size_eq markS)) .nil) ?_
 exact ⟨rfl, hS.old⟩

theorem twin_Sig (w0 : World) (v : Value) (xs : List (Vector UInt8 64)) (mk : (Vector UInt8 64)) (hx : SlR w0 v xs) (hl : xs.length ≤ 100000) : Ret Tryz.prog 47 #[v, .agg (Enc.enc mk)] w0 (fun u w' => ∃ fv, u = cutV fv 0 xs.length (xs.length + 3) (Enc.sz (Vector UInt8 64)) ∧ capV fv = xs.length + 3 ∧ New w0 w' fv 115 (xs ++ [mk, mk, mk]) ∧ Bel w0 w') := by
 refine Ret.enter (args := [v, .agg (Enc.enc mk)]) Tryz.func47 rfl Tryz.ntmps47 Tryz.results47 rfl ?_
 have hS := St.start w0
 refine WC.seq (fun K1 hK1 => ?_)
 refine WC.region ?_
 refine WL.op rfl (opW.boxA hS rfl ?_)
 intro b3 w _ hS
 refine WL.op rfl (opW.assignV (v := .slice none 0 0) rfl ?_)
 refine WL.nil ?_
 refine thenQ_n (hK1 _ _ ?_)
 refine WC.seq (fun K2 hK2 => ?_)
 refine WC.region ?_
 refine WL.op rfl (opW.moveV (v := v) rfl ?_)
 refine WL.op rfl (opW.lenV rfl ((hx.bel hS.old)) ?_)
 refine WL.op rfl (opW.add rfl rfl (wrap_i64 (by omega)) ?_)
 refine WL.op rfl (opW.makeSl (α := (Vector UInt8 64)) (n := xs.length + 3) ((vz 64)) (by first | rfl | (rw [enc_vz]; rfl) | (simp only [Account.enc_eq, Account.parts, Role.enc_eq, Role.parts, Instr.enc_eq, Instr.parts, Ask.enc_eq, Ask.parts, Cut.enc_eq, Cut.parts, PairS.enc_eq, PairS.parts, RAsk.enc_eq, RAsk.parts, Header.enc_eq, Header.parts, Lookup.enc_eq, Lookup.parts, Message.enc_eq, Message.parts, Tx.enc_eq, Tx.parts, Budget.enc_eq, Budget.parts, Ready.enc_eq, Ready.parts, Holding.enc_eq, Holding.parts, Outcome.enc_eq, Outcome.parts, Running.enc_eq, Running.parts, StS.enc_eq, StS.parts]; rw [enc_vz]; rfl)) hS rfl rfl (by omega) (by simp only [maxLen]; omega) ?_)
 intro b11 w _ hS
 refine WL.op rfl (opW.assignV (v := (.slice (some ⟨b11, 0, none⟩) (xs.length + 3) (xs.length + 3))) rfl ?_)
 refine WL.nil ?_
 refine thenQ_n (hK2 _ _ ?_)
 refine WC.seq (fun K3 hK3 => ?_)
 refine WC.seq (fun K4 hK4 => ?_)
 refine WC.region ?_
 refine WL.op rfl (opW.assignI rfl ?_)
 refine WL.nil ?_
 refine thenQ_n (hK4 _ _ ?_)
 refine WC.block ?_
 refine WC.loop (fun q f w => ∃ k : Nat, Fits [(0, v), (3, .pointer (some ⟨b3, 0, none⟩)), (5, (.slice (some ⟨b11, 0, none⟩) (xs.length + 3) (xs.length + 3))), (6, .int .i64 (k : Int))] f ∧ St w0 [ownE (.slice (some ⟨b11, 0, none⟩) (xs.length + 3) (xs.length + 3)) 115 (xs.take k ++ List.replicate (xs.length + 3 - k) (vz 64)), blkE b3 (Enc.enc mk) 115] w ∧ k ≤ xs.length ∧ q = xs.length - k) (xs.length) ?_ ?_
 ·
  exact ⟨0, ⟨rfl, rfl, rfl, rfl, trivial⟩, hS, Nat.zero_le _, rfl⟩
 ·
  rintro q f w ⟨k, hfit, hS, hk0, hm⟩
  refine WC.fits _ hfit (fun g => ?_)
  clear hfit
  refine WC.seq (fun K5 hK5 => ?_)
  refine WC.seq (fun K6 hK6 => ?_)
  refine WC.region ?_
  refine WL.op rfl (opW.moveI rfl ?_)
  refine WL.op rfl (opW.moveV (v := v) rfl ?_)
  refine WL.op rfl (opW.lenV rfl ((hx.bel hS.old)) ?_)
  refine WL.op rfl (opW.lss rfl rfl ?_)
  refine WL.nil ?_
  refine thenQ_n (hK6 _ _ ?_)
  refine WC.cond _ rfl (fun hc0 => ?_) (fun hc0 => ?_)
  ·
   have hr0 := hc0
   try simp only [sq1,sq2,sq3,sq4,sq5,sq6,sq7,sq8,sq9,sq0] at hc0
   have hkl : k < xs.length := by omega
   have hll : (xs.take k ++ List.replicate (xs.length + 3 - k) (vz 64)).length = xs.length + 3 := by simp; omega
   refine WC.skip ?_
   refine thenQ_n (hK5 _ _ ?_)
   refine WC.seq (fun K7 hK7 => ?_)
   refine WC.block ?_
   refine WC.region ?_
   refine WL.op rfl (opW.moveV (v := (.slice (some ⟨b11, 0, none⟩) (xs.length + 3) (xs.length + 3))) rfl ?_)
   refine WL.op rfl (opW.moveI rfl ?_)
   refine WL.op rfl (opW.moveV (v := v) rfl ?_)
   refine WL.op rfl (opW.moveI rfl ?_)
   refine WL.op rfl (opW.idxV rfl ((hx.bel hS.old)) rfl (by omega) ?_)
   refine WL.op rfl (opW.loadV rfl (((hx.bel hS.old).isPt hkl).ldA (Enc.size_eq _)) ?_)
   refine WL.op rfl (opW.idxV rfl (hS.sl (v := (.slice (some ⟨b11, 0, none⟩) (xs.length + 3) (xs.length + 3))) (xs := (xs.take k ++ List.replicate (xs.length + 3 - k) (vz 64))) (by repeat constructor)) rfl (by omega) ?_)
   refine WL.op0 (opW.storeOwn (v := (.slice (some ⟨b11, 0, none⟩) (xs.length + 3) (xs.length + 3))) (u := .agg (Enc.enc xs[k])) (xs := (xs.take k ++ List.replicate (xs.length + 3 - k) (vz 64))) (i := k) (off := 0) (y' := xs[k]) hS (by repeat constructor) (by omega) (ptrAdd_zero (.slice (some ⟨b11, 0, none⟩) (xs.length + 3) (xs.length + 3)) k (Enc.sz (Vector UInt8 64))).symm rfl (by first | exact Enc.size_eq (α := (Vector UInt8 64)) xs[k] | rfl) (by first | exact Nat.le_refl _ | decide) (Enc.one (xs[k])) (spl_all (by rw [Enc.size_eq]; first | exact Enc.size_eq (α := (Vector UInt8 64)) xs[k] | rfl)) ?_)
   intro w hS; replace hS := hS _ (by repeat constructor)
   refine WL.nil ?_
   refine blockQ_n ?_
   refine thenQ_n (hK7 _ _ ?_)
   refine WC.region ?_
   refine WL.op rfl (opW.moveI rfl ?_)
   refine WL.op rfl (opW.add rfl rfl (wrap_i64 (by omega)) ?_)
   refine WL.op rfl (opW.assignI rfl ?_)
   refine WL.nil ?_
   refine thenQ_n ?_
   rw [twin_set1 hkl] at hS
   exact ⟨xs.length - (k + 1), by omega, k + 1, ⟨rfl, rfl, rfl, congrArg (Value.int .i64) (by omega), trivial⟩, hS, by omega, rfl⟩
  ·
   have hr0 := hc0
   try simp only [sq1,sq2,sq3,sq4,sq5,sq6,sq7,sq8,sq9,sq0] at hc0
   obtain rfl : k = xs.length := by omega
   rw [twin_mid] at hS
   refine WC.exit ?_
   refine thenQ_e ?_
   refine thenQ_e ?_
   refine blockQ_hit ?_
   refine thenQ_n (hK3 _ _ ?_)
   refine WC.seq (fun K8 hK8 => ?_)
   refine WC.seq (fun K9 hK9 => ?_)
   refine WC.region ?_
   refine WL.op rfl (opW.assignI rfl ?_)
   refine WL.nil ?_
   refine thenQ_n (hK9 _ _ ?_)
   refine WC.block ?_
   refine WC.loop (fun q f w => ∃ k : Nat, Fits [(0, v), (3, .pointer (some ⟨b3, 0, none⟩)), (5, (.slice (some ⟨b11, 0, none⟩) (xs.length + 3) (xs.length + 3))), (7, .int .i64 (k : Int))] f ∧ St w0 [ownE (.slice (some ⟨b11, 0, none⟩) (xs.length + 3) (xs.length + 3)) 115 (xs ++ (List.replicate k mk ++ List.replicate (3 - k) (vz 64))), blkE b3 (Enc.enc mk) 115] w ∧ k ≤ 3 ∧ q = 3 - k) (3) ?_ ?_
   ·
    exact ⟨0, ⟨rfl, rfl, rfl, rfl, trivial⟩, hS, Nat.zero_le _, rfl⟩
   ·
    rintro q f w ⟨k, hfit, hS, hk0, hm⟩
    refine WC.fits _ hfit (fun g => ?_)
    clear hfit
    refine WC.seq (fun K10 hK10 => ?_)
    refine WC.seq (fun K11 hK11 => ?_)
    refine WC.region ?_
    refine WL.op rfl (opW.moveI rfl ?_)
    refine WL.op rfl (opW.lss rfl rfl ?_)
    refine WL.nil ?_
    refine thenQ_n (hK11 _ _ ?_)
    refine WC.cond _ rfl (fun hc1 => ?_) (fun hc1 => ?_)
    ·
     have hr1 := hc1
     try simp only [sq1,sq2,sq3,sq4,sq5,sq6,sq7,sq8,sq9,sq0] at hc1
     have hkl : k < 3 := by omega
     have hll : (xs ++ (List.replicate k mk ++ List.replicate (3 - k) (vz 64))).length = xs.length + 3 := by simp; omega
     refine WC.skip ?_
     refine thenQ_n (hK10 _ _ ?_)
     refine WC.seq (fun K12 hK12 => ?_)
     refine WC.block ?_
     refine WC.region ?_
     refine WL.op rfl (opW.moveV (v := (.slice (some ⟨b11, 0, none⟩) (xs.length + 3) (xs.length + 3))) rfl ?_)
     refine WL.op rfl (opW.moveV (v := v) rfl ?_)
     refine WL.op rfl (opW.lenV rfl ((hx.bel hS.old)) ?_)
     refine WL.op rfl (opW.moveI rfl ?_)
     refine WL.op rfl (opW.add rfl rfl (wrap_i64 (by omega)) ?_)
     refine WL.op rfl (opW.loadV rfl (hS.ldA (cs := Enc.enc mk) (by repeat constructor) (Enc.size_eq _)) ?_)
     refine WL.op rfl (opW.idxV rfl (hS.sl (v := (.slice (some ⟨b11, 0, none⟩) (xs.length + 3) (xs.length + 3))) (xs := (xs ++ (List.replicate k mk ++ List.replicate (3 - k) (vz 64)))) (by repeat constructor)) rfl (by omega) ?_)
     refine WL.op0 (opW.storeOwn (v := (.slice (some ⟨b11, 0, none⟩) (xs.length + 3) (xs.length + 3))) (u := .agg (Enc.enc mk)) (xs := (xs ++ (List.replicate k mk ++ List.replicate (3 - k) (vz 64)))) (i := xs.length + k) (off := 0) (y' := mk) hS (by repeat constructor) (by omega) (ptrAdd_zero (.slice (some ⟨b11, 0, none⟩) (xs.length + 3) (xs.length + 3)) (xs.length + k) (Enc.sz (Vector UInt8 64))).symm rfl (by first | exact Enc.size_eq (α := (Vector UInt8 64)) mk | rfl) (by first | exact Nat.le_refl _ | decide) (Enc.one mk) (spl_all (by rw [Enc.size_eq]; first | exact Enc.size_eq (α := (Vector UInt8 64)) mk | rfl)) ?_)
     intro w hS; replace hS := hS _ (by repeat constructor)
     refine WL.nil ?_
     refine blockQ_n ?_
     refine thenQ_n (hK12 _ _ ?_)
     refine WC.region ?_
     refine WL.op rfl (opW.moveI rfl ?_)
     refine WL.op rfl (opW.add rfl rfl (wrap_i64 (by omega)) ?_)
     refine WL.op rfl (opW.assignI rfl ?_)
     refine WL.nil ?_
     refine thenQ_n ?_
     rw [twin_set2 hkl] at hS
     exact ⟨3 - (k + 1), by omega, k + 1, ⟨rfl, rfl, rfl, congrArg (Value.int .i64) (by omega), trivial⟩, hS, by omega, rfl⟩
    ·
     have hr1 := hc1
     try simp only [sq1,sq2,sq3,sq4,sq5,sq6,sq7,sq8,sq9,sq0] at hc1
     obtain rfl : k = 3 := by omega
     have hS3 : St w0 [ownE (.slice (some ⟨b11, 0, none⟩) (xs.length + 3) (xs.length + 3)) 115 (xs ++ [mk, mk, mk]), blkE b3 (Enc.enc mk) 115] w := hS
     clear hS
     have hS := hS3
     refine WC.exit ?_
     refine thenQ_e ?_
     refine thenQ_e ?_
     refine blockQ_hit ?_
     refine thenQ_n (hK8 _ _ ?_)
     refine WC.seq (fun K13 hK13 => ?_)
     refine WC.region ?_
     refine WL.op rfl (opW.moveV (v := (.slice (some ⟨b11, 0, none⟩) (xs.length + 3) (xs.length + 3))) rfl ?_)
     refine WL.op rfl (opW.moveV (v := v) rfl ?_)
     refine WL.op rfl (opW.lenV rfl ((hx.bel hS.old)) ?_)
     refine WL.op rfl (opW.cutS (l := 0) (h' := xs.length) (m := xs.length + 3) (hS.sl (v := (.slice (some ⟨b11, 0, none⟩) (xs.length + 3) (xs.length + 3))) (xs := xs ++ [mk, mk, mk]) (by repeat constructor)) ⟨rfl, Nat.le_refl _⟩ ⟨⟨_, rfl⟩, by omega⟩ ⟨rfl, Nat.zero_le _⟩ ?_)
     refine WL.op rfl (opW.assignV (v := (cutV (.slice (some ⟨b11, 0, none⟩) (xs.length + 3) (xs.length + 3)) 0 xs.length (xs.length + 3) (Enc.sz (Vector UInt8 64)))) rfl ?_)
     refine WL.nil ?_
     refine thenQ_n (hK13 _ _ ?_)
     refine WC.ret ?_
     refine bodyQ_ret (.tmpV (v := cutV (.slice (some ⟨b11, 0, none⟩) (xs.length + 3) (xs.length + 3)) 0 xs.length (xs.length + 3) (Enc.sz (Vector UInt8 64))) rfl .nil) ?_
     exact ⟨(.slice (some ⟨b11, 0, none⟩) (xs.length + 3) (xs.length + 3)), rfl, rfl, hS.own_new (by repeat constructor), hS.old⟩

theorem left_Sig (w0 : World) (fv u : Value) (xs : List (Vector UInt8 64)) (mk : (Vector UInt8 64)) (hcf : capV fv = xs.length + 3) (hf : SlR w0 fv (xs ++ [mk, mk, mk])) (hu : SlR w0 u xs) : Ret Tryz.prog 65 #[(cutV fv 0 xs.length (xs.length + 3) (Enc.sz (Vector UInt8 64))), u, .agg (Enc.enc mk)] w0 (fun r w' => r = .bool true ∧ Bel w0 w') := by
 refine Ret.enter (args := [(cutV fv 0 xs.length (xs.length + 3) (Enc.sz (Vector UInt8 64))), u, .agg (Enc.enc mk)]) Tryz.func65 rfl Tryz.ntmps65 Tryz.results65 rfl ?_
 have hS := St.start w0
 have hlx : (xs ++ [mk, mk, mk]).length = xs.length + 3 := by simp
 have ht : SlR w0 (cutV fv 0 xs.length (xs.length + 3) (Enc.sz (Vector UInt8 64))) xs := by
  have := hf.head (m := xs.length + 3) (by omega) (by omega)
  exact this
 have hct : capV (cutV fv 0 xs.length (xs.length + 3) (Enc.sz (Vector UInt8 64))) = xs.length + 3 := by obtain ⟨a, c, h⟩ := hf.eq; rw [h]; simp [cutV, capV]
 have hr : SlR w0 (cutV (cutV fv 0 xs.length (xs.length + 3) (Enc.sz (Vector UInt8 64))) 0 (xs.length + 3) (xs.length + 3) (Enc.sz (Vector UInt8 64))) (xs ++ [mk, mk, mk]) := by
  have := hf.front (k := xs.length + 3) (m := xs.length + 3) (by omega) (Nat.le_refl _) (by omega)
  rw [List.take_of_length_le (by omega)] at this
  rw [cutV_cut0]
  exact this
 have hle := hf.le
 rw [hlx] at hle
 simp only [maxLen] at hle
 refine WC.seq (fun K1 hK1 => ?_)
 refine WC.region ?_
 refine WL.op rfl (opW.boxA hS rfl ?_)
 intro b5 w _ hS
 refine WL.op rfl (opW.assignB rfl ?_)
 refine WL.nil ?_
 refine thenQ_n (hK1 _ _ ?_)
 refine WC.seq (fun K2 hK2 => ?_)
 refine WC.seq (fun K3 hK3 => ?_)
 refine WC.region ?_
 refine WL.op rfl (opW.moveV (v := (cutV fv 0 xs.length (xs.length + 3) (Enc.sz (Vector UInt8 64)))) rfl ?_)
 refine WL.op rfl (opW.moveV (v := u) rfl ?_)
 refine WL.op rfl (opW.call (same_s _ _ _ xs xs (ht.bel hS.old) (hu.bel hS.old)) rfl ?_)
 rintro _ w ⟨rfl, hw⟩; replace hS := hS.bel hw
 rw [decide_eq_true (rfl : xs = xs)]
 refine WL.op rfl (opW.not rfl ?_)
 refine WL.op rfl (opW.moveB rfl ?_)
 refine WL.gT 13 rfl rfl rfl (WL.op rfl (opW.moveV (v := (cutV fv 0 xs.length (xs.length + 3) (Enc.sz (Vector UInt8 64)))) rfl ?_))
 refine WL.gT 13 rfl rfl rfl (WL.op rfl (opW.cap (v := (cutV fv 0 xs.length (xs.length + 3) (Enc.sz (Vector UInt8 64)))) rfl (ht.bel hS.old) ?_))
 refine WL.gT 13 rfl rfl rfl (WL.op rfl (opW.moveV (v := u) rfl ?_))
 refine WL.gT 13 rfl rfl rfl (WL.op rfl (opW.lenV rfl ((hu.bel hS.old)) ?_))
 refine WL.gT 13 rfl rfl rfl (WL.op rfl (opW.add rfl rfl (wrap_i64 (by omega)) ?_))
 refine WL.gT 13 rfl rfl rfl (WL.op rfl (opW.lss rfl rfl ?_))
 refine WL.op rfl (opW.pickT rfl rfl ?_)
 refine WL.nil ?_
 refine thenQ_n (hK3 _ _ ?_)
 refine WC.cond _ rfl (fun hc0 => ?_) (fun hc0 => ?_)
 ·
  have hr0 := hc0
  try simp only [sq1,sq2,sq3,sq4,sq5,sq6,sq7,sq8,sq9,sq0] at hc0
  simp [hct] at hr0
 ·
  have hr0 := hc0
  try simp only [sq1,sq2,sq3,sq4,sq5,sq6,sq7,sq8,sq9,sq0] at hc0
  refine WC.skip ?_
  refine thenQ_n (hK2 _ _ ?_)
  refine WC.seq (fun K4 hK4 => ?_)
  refine WC.region ?_
  refine WL.op rfl (opW.moveV (v := (cutV fv 0 xs.length (xs.length + 3) (Enc.sz (Vector UInt8 64)))) rfl ?_)
  refine WL.op rfl (opW.moveV (v := u) rfl ?_)
  refine WL.op rfl (opW.lenV rfl ((hu.bel hS.old)) ?_)
  refine WL.op rfl (opW.add rfl rfl (wrap_i64 (by omega)) ?_)
  refine WL.op rfl (opW.cutS (l := 0) (h' := xs.length + 3) (m := xs.length + 3) (ht.bel hS.old) ⟨hct.symm, Nat.le_of_eq hct.symm⟩ ⟨⟨_, rfl⟩, Nat.le_refl _⟩ ⟨rfl, Nat.zero_le _⟩ ?_)
  refine WL.op rfl (opW.assignV (v := (cutV (cutV fv 0 xs.length (xs.length + 3) (Enc.sz (Vector UInt8 64))) 0 (xs.length + 3) (xs.length + 3) (Enc.sz (Vector UInt8 64)))) rfl ?_)
  refine WL.nil ?_
  refine thenQ_n (hK4 _ _ ?_)
  refine WC.seq (fun K5 hK5 => ?_)
  refine WC.seq (fun K6 hK6 => ?_)
  refine WC.region ?_
  refine WL.op rfl (opW.assignI rfl ?_)
  refine WL.nil ?_
  refine thenQ_n (hK6 _ _ ?_)
  refine WC.block ?_
  refine WC.loop (fun q f w => ∃ k : Nat, Fits [(1, u), (5, .pointer (some ⟨b5, 0, none⟩)), (7, (cutV (cutV fv 0 xs.length (xs.length + 3) (Enc.sz (Vector UInt8 64))) 0 (xs.length + 3) (xs.length + 3) (Enc.sz (Vector UInt8 64)))), (8, .int .i64 (k : Int))] f ∧ St w0 [blkE b5 (Enc.enc mk) 115] w ∧ k ≤ 3 ∧ q = 3 - k) (3) ?_ ?_
  ·
   exact ⟨0, ⟨rfl, rfl, rfl, rfl, trivial⟩, hS, Nat.zero_le _, rfl⟩
  ·
   rintro q f w ⟨k, hfit, hS, hk0, hm⟩
   refine WC.fits _ hfit (fun g => ?_)
   clear hfit
   refine WC.seq (fun K7 hK7 => ?_)
   refine WC.seq (fun K8 hK8 => ?_)
   refine WC.region ?_
   refine WL.op rfl (opW.moveI rfl ?_)
   refine WL.op rfl (opW.lss rfl rfl ?_)
   refine WL.nil ?_
   refine thenQ_n (hK8 _ _ ?_)
   refine WC.cond _ rfl (fun hc1 => ?_) (fun hc1 => ?_)
   ·
    have hr1 := hc1
    try simp only [sq1,sq2,sq3,sq4,sq5,sq6,sq7,sq8,sq9,sq0] at hc1
    have hkl : k < 3 := by omega
    have hkx : xs.length + k < (xs ++ [mk, mk, mk]).length := by omega
    refine WC.skip ?_
    refine thenQ_n (hK7 _ _ ?_)
    refine WC.seq (fun K9 hK9 => ?_)
    refine WC.block ?_
    refine WC.seq (fun K10 hK10 => ?_)
    refine WC.draw 9 (.look 0 (.look 1 (.look 2 (.look 3 (.look 4 (.look 5 (.look 6 (.look 7 (.look 8 .nil))))))))) (by kernel_rfl) (fun _ _ _ h => h) (fun w1 hw1 => ?_)
    replace hS := hS.bel hw1
    have hS1 := hS
    have hT := St.start w1
    refine ML.look rfl rfl rfl (fun w hw => (by have hS := hS1.bel hw; exact opW.moveV (v := (cutV (cutV fv 0 xs.length (xs.length + 3) (Enc.sz (Vector UInt8 64))) 0 (xs.length + 3) (xs.length + 3) (Enc.sz (Vector UInt8 64)))) rfl ⟨rfl, rfl⟩)) ?_
    refine ML.look rfl rfl rfl (fun w hw => (by have hS := hS1.bel hw; exact opW.moveV (v := u) rfl ⟨rfl, rfl⟩)) ?_
    refine ML.look rfl rfl rfl (fun w hw => (by have hS := hS1.bel hw; exact opW.lenV rfl ((hu.bel hS.old)) ⟨rfl, rfl⟩)) ?_
    refine ML.look rfl rfl rfl (fun w hw => (by have hS := hS1.bel hw; exact opW.moveI rfl ⟨rfl, rfl⟩)) ?_
    refine ML.look rfl rfl rfl (fun w hw => (by have hS := hS1.bel hw; exact opW.add rfl rfl (wrap_i64 (by omega)) ⟨rfl, rfl⟩)) ?_
    refine ML.look rfl rfl rfl (fun w hw => (by have hS := hS1.bel hw; exact opW.idxV rfl ((hr.bel hS.old)) rfl (by omega) ⟨rfl, rfl⟩)) ?_
    refine ML.look rfl rfl rfl (fun w hw => (by have hS := hS1.bel hw; exact opW.loadV rfl (((hr.bel hS.old).isPt (i := xs.length + k) hkx).ldA (Enc.size_eq _)) ⟨rfl, rfl⟩)) ?_
    refine ML.look rfl rfl rfl (fun w hw => (by have hS := hS1.bel hw; exact opW.loadV rfl (hS.ldA (cs := Enc.enc mk) (by repeat constructor) (Enc.size_eq _)) ⟨rfl, rfl⟩)) ?_
    refine ML.look rfl rfl rfl (fun w hw => (by have hS := hS1.bel hw; exact opW.neqE rfl rfl ⟨rfl, rfl⟩)) ?_
    refine ML.nil ?_
    refine thenQ_n (hK10 _ _ ?_)
    refine WC.cond _ rfl (fun hc2 => ?_) (fun hc2 => ?_)
    ·
     have hr2 := hc2
     try simp only [sq1,sq2,sq3,sq4,sq5,sq6,sq7,sq8,sq9,sq0] at hc2
     have hg : (xs ++ [mk, mk, mk])[xs.length + k] = mk := by
      rw [List.getElem_append_right (by omega)]
      rcases (by omega : k = 0 ∨ k = 1 ∨ k = 2) with rfl | rfl | rfl <;> simp
     rw [hg] at hr2
     simp at hr2
    ·
     have hr2 := hc2
     try simp only [sq1,sq2,sq3,sq4,sq5,sq6,sq7,sq8,sq9,sq0] at hc2
     refine WC.skip ?_
     refine blockQ_n ?_
     refine thenQ_n (hK9 _ _ ?_)
     refine WC.region ?_
     refine WL.op rfl (opW.moveI rfl ?_)
     refine WL.op rfl (opW.add rfl rfl (wrap_i64 (by omega)) ?_)
     refine WL.op rfl (opW.assignI rfl ?_)
     refine WL.nil ?_
     refine thenQ_n ?_
     exact ⟨3 - (k + 1), by omega, k + 1, ⟨rfl, rfl, rfl, congrArg (Value.int .i64) (by omega), trivial⟩, hS, by omega, rfl⟩
   ·
    have hr1 := hc1
    try simp only [sq1,sq2,sq3,sq4,sq5,sq6,sq7,sq8,sq9,sq0] at hc1
    refine WC.exit ?_
    refine thenQ_e ?_
    refine thenQ_e ?_
    refine blockQ_hit ?_
    refine thenQ_n (hK5 _ _ ?_)
    refine WC.seq (fun K11 hK11 => ?_)
    refine WC.region ?_
    refine WL.op rfl (opW.assignB rfl ?_)
    refine WL.nil ?_
    refine thenQ_n (hK11 _ _ ?_)
    refine WC.ret ?_
    refine bodyQ_ret (.tmpB rfl .nil) ?_
    exact ⟨rfl, hS.old⟩

theorem tx_zero : (joinA [#[.slice none 0 0], joinA [#[.bool false], joinA [#[.int .u8 0], #[.int .u8 0], #[.int .u8 0]], #[.slice none 0 0], (Array.replicate 32 (.int .u8 0)), #[.slice none 0 0], #[.slice none 0 0]]]) = Enc.enc (⟨⟨none, 0, 0⟩, ⟨false, ⟨0, 0, 0⟩, ⟨none, 0, 0⟩, vz 32, ⟨none, 0, 0⟩, ⟨none, 0, 0⟩⟩⟩ : Tx) := by
 simp only [Tx.enc_eq, Tx.parts, enc_vz, Message.enc_eq, Message.parts, Header.enc_eq, Header.parts]; rfl

structure TC where
 sigs : List (Vector UInt8 64)
 m : MC
deriving DecidableEq
def IsT (w : World) (t : Tx) (x : TC) (ins : List Instr) (lks : List Lookup) : Prop := SlR w t.sigs.v x.sigs ∧ IsM w t.m x.m ins lks
theorem IsT.bel {w w' : World} {t : Tx} {x : TC} {ins : List Instr} {lks : List Lookup} (h : IsT w t x ins lks) (hb : Bel w w') : IsT w' t x ins lks := ⟨h.1.bel hb, h.2.bel hb⟩

theorem sameTx_ok (w0 : World) (a b : Tx) (xa xb : TC) (insA insB : List Instr) (lksA lksB : List Lookup) (hA : IsT w0 a xa insA lksA) (hB : IsT w0 b xb insB lksB) : Ret Tryz.prog 62 #[.agg (Enc.enc a), .agg (Enc.enc b)] w0 (fun r w' => r = .bool (decide (xa = xb)) ∧ Bel w0 w') := by
 refine Ret.enter (args := [.agg (Enc.enc a), .agg (Enc.enc b)]) Tryz.func62 rfl Tryz.ntmps62 Tryz.results62 rfl ?_
 have hS := St.start w0
 refine WC.seq (fun K1 hK1 => ?_)
 refine WC.region ?_
 refine WL.op rfl (opW.boxA hS rfl ?_)
 intro b2 w _ hS
 refine WL.op rfl (opW.boxA hS rfl ?_)
 intro b3 w _ hS
 refine WL.op rfl (opW.assignB rfl ?_)
 refine WL.nil ?_
 refine thenQ_n (hK1 _ _ ?_)
 refine WC.seq (fun K2 hK2 => ?_)
 refine WC.region ?_
 refine WL.op rfl (opW.fieldAddrB rfl ?_)
 refine WL.op rfl (opW.loadV rfl (hS.ld1 (cs := Enc.enc a) (by repeat constructor) (Tx.at_sigs a)) ?_)
 refine WL.op rfl (opW.fieldAddrB rfl ?_)
 refine WL.op rfl (opW.loadV rfl (hS.ld1 (cs := Enc.enc b) (by repeat constructor) (Tx.at_sigs b)) ?_)
 refine WL.op rfl (opW.call (same_s _ _ _ _ _ (hA.1.bel hS.old) (hB.1.bel hS.old)) rfl ?_)
 rintro _ w ⟨rfl, hw⟩; replace hS := hS.bel hw
 refine WL.op rfl (opW.moveB rfl ?_)
 refine WL.gd _ 10 _ rfl rfl rfl rfl (fun hg11 => opW.fieldAddrB rfl ⟨rfl, Bel.refl _⟩) (fun w hw => ?_)
 replace hS := hS.bel hw
 refine WL.gd _ 10 (.agg (Enc.enc a.m)) rfl rfl rfl rfl (fun hg12 => ?_) (fun w hw => ?_)
 ·refine opW.loadV (by first | exact gv_of rfl hg12 | rfl) (hS.ldF (cs := Enc.enc a) (by repeat constructor) (Tx.ex_m a) (by rw [Enc.size_eq]; decide)) ⟨rfl, Bel.refl _⟩
 replace hS := hS.bel hw
 refine WL.gd _ 10 _ rfl rfl rfl rfl (fun hg13 => opW.fieldAddrB rfl ⟨rfl, Bel.refl _⟩) (fun w hw => ?_)
 replace hS := hS.bel hw
 refine WL.gd _ 10 (.agg (Enc.enc b.m)) rfl rfl rfl rfl (fun hg14 => ?_) (fun w hw => ?_)
 ·refine opW.loadV (by first | exact gv_of rfl hg14 | rfl) (hS.ldF (cs := Enc.enc b) (by repeat constructor) (Tx.ex_m b) (by rw [Enc.size_eq]; decide)) ⟨rfl, Bel.refl _⟩
 replace hS := hS.bel hw
 refine WL.gd _ 10 (.bool (decide (xa.m = xb.m))) rfl rfl rfl rfl (fun hg15 => ?_) (fun w hw => ?_)
 ·refine opW.call (sameMsg_ok _ a.m b.m xa.m xb.m insA insB lksA lksB (hA.2.bel hS.old) (hB.2.bel hS.old)) (args2 (by first | exact gv_of rfl hg15 | rfl) (by first | exact gv_of rfl hg15 | rfl)) ?_
  rintro v w ⟨rfl, hw⟩; replace hS := hS.bel hw
  exact ⟨rfl, ‹_›⟩
 replace hS := hS.bel hw
 refine WL.op rfl (opW.pickAnd rfl (by first | rfl) rfl ?_)
 refine WL.op rfl (opW.assignB rfl ?_)
 refine WL.nil ?_
 refine thenQ_n (hK2 _ _ ?_)
 refine WC.ret ?_
 refine bodyQ_ret (.tmpB rfl .nil) ?_
 refine ⟨congrArg Value.bool ?_, hS.old⟩
 rw [Bool.eq_iff_iff]
 simp only [Bool.and_eq_true, decide_eq_true_eq]
 cases xa; cases xb
 simp only [TC.mk.injEq]

theorem twinTx_ok (w0 : World) (t : Tx) (x : TC) (ins : List Instr) (lks : List Lookup) (hx : IsT w0 t x ins lks) (hsg : x.sigs.length ≤ 20000) (hsz : x.m.size < 20000) : Ret Tryz.prog 20 #[.agg (Enc.enc t)] w0 (fun u w' => ∃ (sf : Value) (sc : SlV) (kf : Value) (kc iv lv : SlV) (li ll : List (BT × BT)), u = .agg (Enc.enc (⟨sc, ⟨t.m.v0, t.m.header, kc, t.m.recent, iv, lv⟩⟩ : Tx)) ∧ sc.v = cutV sf 0 x.sigs.length (x.sigs.length + 3) (Enc.sz (Vector UInt8 64)) ∧ capV sf = x.sigs.length + 3 ∧ kc.v = cutV kf 0 x.m.keys.length (x.m.keys.length + 3) (Enc.sz (Vector UInt8 32)) ∧ capV kf = x.m.keys.length + 3 ∧ Tws li x.m.ins ∧ Tws ll x.m.lks ∧ St w0 [tpE ll, ownE lv.v 64 (List.zipWith tL lks ll), tpE li, ownE iv.v 61 (List.zipWith tI ins li), ownE kf 62 (x.m.keys ++ [markK, markK, markK]), ownE sf 115 (x.sigs ++ [markS, markS, markS])] w') := by
 refine Ret.enter (args := [.agg (Enc.enc t)]) Tryz.func20 rfl Tryz.ntmps20 Tryz.results20 rfl ?_
 have hS := St.start w0
 refine WC.seq (fun K1 hK1 => ?_)
 refine WC.region ?_
 refine WL.op rfl (opW.boxA hS rfl ?_)
 intro b1 w _ hS
 refine WL.op rfl (opW.allocA hS ?_)
 intro b2 w _ hS
 rw [tx_zero] at hS
 refine WL.nil ?_
 refine thenQ_n (hK1 _ _ ?_)
 refine WC.seq (fun K2 hK2 => ?_)
 refine WC.draw 8 (.look 0 (.look 1 (.look 4 (.look 5 (.one 2 (.one 3 (.one 6 (.look 7 (.one 8 .nil))))))))) (by kernel_rfl) (fun _ _ _ h => h) (fun w1 hw1 => ?_)
 replace hS := hS.bel hw1
 have hS1 := hS
 have hT := St.start w1
 refine ML.look rfl rfl rfl (fun w hw => (by have hS := hS1.bel hw; exact opW.fieldAddrB rfl ⟨rfl, rfl⟩)) ?_
 refine ML.look rfl rfl rfl (fun w hw => (by have hS := hS1.bel hw; exact opW.loadV rfl (hS.ld1 (by repeat constructor) (Tx.at_sigs t)) ⟨rfl, rfl⟩)) ?_
 refine ML.look rfl rfl rfl (fun w hw => (by have hS := hS1.bel hw; exact opW.fieldAddrB rfl ⟨rfl, rfl⟩)) ?_
 refine ML.look rfl rfl rfl (fun w hw => (by have hS := hS1.bel hw; exact opW.loadV rfl (hS.ldF (cs := Enc.enc t) (by repeat constructor) (Tx.ex_m t) (by rw [Enc.size_eq]; decide)) ⟨rfl, rfl⟩)) ?_
 refine ML.one rfl rfl rfl (opW.call (markSig_ok _) rfl ?_)
 rintro _ w ⟨rfl, hw⟩; replace hT := hT.bel hw
 refine ⟨hT.old, ?_⟩
 have hS := hS1.merge hT
 try simp only [List.cons_append, List.nil_append] at hS
 refine ML.one rfl rfl rfl (opW.call (twin_Sig _ t.sigs.v x.sigs markS (hx.1.bel (hS1.old.trans hT.old)) (by omega)) rfl ?_)
 rintro v6 w ⟨sf, hv6, hcf0, hn6, hw⟩; replace hT := hT.newOwn hw hn6.1 hn6.2
 obtain ⟨sc, rfl⟩ : ∃ s : SlV, v6 = s.v := (by rw [hv6]; exact (SlR.head (hT.sl (v := sf) (xs := x.sigs ++ [markS, markS, markS]) (by repeat constructor)) (by omega) (by omega)).asV)
 refine ⟨hT.old, ?_⟩
 have hS := hS1.merge hT
 try simp only [List.cons_append, List.nil_append] at hS
 refine ML.one rfl rfl rfl (opW.call (twinMsg_ok _ t.m x.m ins lks (hx.2.bel (hS1.old.trans hT.old)) hsz) rfl ?_)
 rintro u9 w ⟨kf, kc, iv, lv, li, ll, rfl, huk, hcf, htw, htl, hTw⟩; replace hT := hT.merge hTw; simp only [List.cons_append, List.nil_append] at hT
 refine ⟨hT.old, ?_⟩
 have hS := hS1.merge hT
 try simp only [List.cons_append, List.nil_append] at hS
 refine ML.look rfl rfl rfl (fun w hw => (by have hS := hS1.bel hw; exact opW.buildE (r := (⟨sc, (⟨t.m.v0, t.m.header, kc, t.m.recent, iv, lv⟩ : Message)⟩ : Tx)) (ps := Tx.parts (⟨sc, (⟨t.m.v0, t.m.header, kc, t.m.recent, iv, lv⟩ : Message)⟩ : Tx)) (Tx.enc_eq _) (by simp only [Header.enc_eq, Header.parts, Message.enc_eq, Message.parts, Tx.parts]; rfl) ⟨(by simp), rfl, (by simp), (Enc.size_eq (α := Message) _), trivial⟩ ⟨rfl, rfl⟩)) ?_
 refine ML.put0 rfl rfl rfl (opW.storeE (b := b2) (r := (⟨sc, (⟨t.m.v0, t.m.header, kc, t.m.recent, iv, lv⟩ : Message)⟩ : Tx)) hS rfl rfl (by repeat constructor) (by exact Enc.size_eq _) ?_)
 intro w hS; replace hS := hS _ (by repeat constructor)
 refine ML.nil ?_
 refine thenQ_n (hK2 _ _ ?_)
 refine WC.ret ?_
 refine bodyQ_ret (.cell (by exact hS.ldA (b := b2) (cs := Enc.enc (⟨sc, (⟨t.m.v0, t.m.header, kc, t.m.recent, iv, lv⟩ : Message)⟩ : Tx)) (by repeat constructor) (by exact Enc.size_eq _)) .nil) ?_
 exact ⟨sf, sc, kf, kc, iv, lv, li, ll, rfl, hv6, hcf0, huk, hcf, htw, htl, hS.sub (by repeat with_reducible first | exact su1 _ | exact su2 _ | refine su3 ?_ | refine su4 ?_)⟩

theorem leftTx_ok (w0 : World) (t : Tx) (x : TC) (ins : List Instr) (lks : List Lookup) (sf kf : Value) (sc kc iv lv : SlV) (li ll : List (BT × BT)) (hx : IsT w0 t x ins lks) (hsc : sc.v = cutV sf 0 x.sigs.length (x.sigs.length + 3) (Enc.sz (Vector UInt8 64))) (hsf : capV sf = x.sigs.length + 3) (hs3 : SlR w0 sf (x.sigs ++ [markS, markS, markS])) (ht : TwR w0 t.m x.m ins lks kf kc iv lv li ll) : Ret Tryz.prog 37 #[.agg (Enc.enc (⟨sc, (⟨t.m.v0, t.m.header, kc, t.m.recent, iv, lv⟩ : Message)⟩ : Tx)), .agg (Enc.enc t)] w0 (fun r w' => r = .bool true ∧ Bel w0 w') := by
 refine Ret.enter (args := [.agg (Enc.enc (⟨sc, (⟨t.m.v0, t.m.header, kc, t.m.recent, iv, lv⟩ : Message)⟩ : Tx)), .agg (Enc.enc t)]) Tryz.func37 rfl Tryz.ntmps37 Tryz.results37 rfl ?_
 have hS := St.start w0
 refine WC.seq (fun K1 hK1 => ?_)
 refine WC.region ?_
 refine WL.op rfl (opW.boxA hS rfl ?_)
 intro b2 w _ hS
 refine WL.op rfl (opW.boxA hS rfl ?_)
 intro b3 w _ hS
 refine WL.op rfl (opW.assignB rfl ?_)
 refine WL.nil ?_
 refine thenQ_n (hK1 _ _ ?_)
 refine WC.seq (fun K2 hK2 => ?_)
 refine WC.draw 14 (.look 0 (.look 1 (.look 2 (.look 3 (.one 4 (.one 5 (.look 6 (.look 7 (.look 8 (.look 9 (.look 10 (.one 11 (.look 12 (.look 13 .nil)))))))))))))) (by kernel_rfl) (fun _ _ _ h => h) (fun w1 hw1 => ?_)
 replace hS := hS.bel hw1
 have hS1 := hS
 have hT := St.start w1
 refine ML.look rfl rfl rfl (fun w hw => (by have hS := hS1.bel hw; exact opW.fieldAddrB rfl ⟨rfl, rfl⟩)) ?_
 refine ML.look rfl rfl rfl (fun w hw => (by have hS := hS1.bel hw; exact opW.loadV rfl (hS.ld1 (cs := Enc.enc (⟨sc, (⟨t.m.v0, t.m.header, kc, t.m.recent, iv, lv⟩ : Message)⟩ : Tx)) (by repeat constructor) ((Tx.at_sigs (⟨sc, (⟨t.m.v0, t.m.header, kc, t.m.recent, iv, lv⟩ : Message)⟩ : Tx)).trans (congrArg some hsc))) ⟨rfl, rfl⟩)) ?_
 refine ML.look rfl rfl rfl (fun w hw => (by have hS := hS1.bel hw; exact opW.fieldAddrB rfl ⟨rfl, rfl⟩)) ?_
 refine ML.look rfl rfl rfl (fun w hw => (by have hS := hS1.bel hw; exact opW.loadV rfl (hS.ld1 (cs := Enc.enc t) (by repeat constructor) (Tx.at_sigs t)) ⟨rfl, rfl⟩)) ?_
 refine ML.one rfl rfl rfl (opW.call (markSig_ok _) rfl ?_)
 rintro _ w ⟨rfl, hw⟩; replace hT := hT.bel hw
 refine ⟨hT.old, ?_⟩
 have hS := hS1.merge hT
 try simp only [List.cons_append, List.nil_append] at hS
 refine ML.one rfl rfl rfl (opW.call (left_Sig _ sf t.sigs.v x.sigs markS hsf (hs3.bel (hS1.old.trans hT.old)) (hx.1.bel (hS1.old.trans hT.old))) rfl ?_)
 rintro _ w ⟨rfl, hw⟩; replace hT := hT.bel hw
 refine ⟨hT.old, ?_⟩
 have hS := hS1.merge hT
 try simp only [List.cons_append, List.nil_append] at hS
 refine ML.look rfl rfl rfl (fun w hw => (by have hS := hS1.bel hw; exact opW.moveB rfl ⟨rfl, rfl⟩)) ?_
 refine ML.lookT 11 rfl rfl rfl rfl rfl rfl (fun w hw => (by have hS := hS1.bel hw; exact opW.fieldAddrB rfl ⟨rfl, rfl⟩)) ?_
 refine ML.lookT 11 rfl rfl rfl rfl rfl rfl (fun w hw => (by have hS := hS1.bel hw; exact opW.loadV rfl (hS.ldF (cs := Enc.enc (⟨sc, (⟨t.m.v0, t.m.header, kc, t.m.recent, iv, lv⟩ : Message)⟩ : Tx)) (by repeat constructor) (Tx.ex_m (⟨sc, (⟨t.m.v0, t.m.header, kc, t.m.recent, iv, lv⟩ : Message)⟩ : Tx)) (by rw [Enc.size_eq]; decide)) ⟨rfl, rfl⟩)) ?_
 refine ML.lookT 11 rfl rfl rfl rfl rfl rfl (fun w hw => (by have hS := hS1.bel hw; exact opW.fieldAddrB rfl ⟨rfl, rfl⟩)) ?_
 refine ML.lookT 11 rfl rfl rfl rfl rfl rfl (fun w hw => (by have hS := hS1.bel hw; exact opW.loadV rfl (hS.ldF (cs := Enc.enc t) (by repeat constructor) (Tx.ex_m t) (by rw [Enc.size_eq]; decide)) ⟨rfl, rfl⟩)) ?_
 refine ML.oneT 11 rfl rfl rfl rfl rfl rfl (opW.call (leftMsg_ok _ t.m x.m ins lks kf kc iv lv li ll (hx.2.bel (hS1.old.trans hT.old)) (ht.bel (hS1.old.trans hT.old))) rfl ?_)
 rintro _ w ⟨rfl, hw⟩; replace hT := hT.bel hw
 refine ⟨hT.old, ?_⟩
 have hS := hS1.merge hT
 try simp only [List.cons_append, List.nil_append] at hS
 refine ML.look rfl rfl rfl (fun w hw => (by have hS := hS1.bel hw; exact opW.pickT rfl rfl ⟨rfl, rfl⟩)) ?_
 refine ML.look rfl rfl rfl (fun w hw => (by have hS := hS1.bel hw; exact opW.assignB rfl ⟨rfl, rfl⟩)) ?_
 refine ML.nil ?_
 refine thenQ_n (hK2 _ _ ?_)
 refine WC.ret ?_
 refine bodyQ_ret (.tmpB rfl .nil) ?_
 exact ⟨rfl, hS.old⟩

end Go.Fer
