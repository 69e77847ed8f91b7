/- roles, accounts, twins -/
import Derived.Test.YtmibkfdpgmohfaaGreatDoorT
set_option linter.all false
namespace Go.Fer
open Go Go.Proofs Go.RowKit

theorem same_a (w0 : World) (v u : Value) (xs ys : List Account) (hx : SlR w0 v xs) (hy : SlR w0 u ys) : Ret Tryz.prog 68 #[v, u] w0 (fun r w' => r = .bool (decide (xs = ys)) ∧ Bel w0 w') := by
 refine Ret.enter (args := [v, u]) Tryz.func68 rfl Tryz.ntmps68 Tryz.results68 rfl ?_
 have hS := St.start w0
 refine WC.seq (fun K1 hK1 => ?_)
 refine WC.region ?_
 refine WL.op rfl (opW.assignB rfl ?_)
 refine WL.nil ?_
 refine thenQ_n (hK1 _ _ ?_)
 refine WC.seq (fun K2 hK2 => ?_)
 refine WC.seq (fun K3 hK3 => ?_)
 refine WC.region ?_
 refine WL.op rfl (opW.moveV (v := v) rfl ?_)
 refine WL.op rfl (opW.lenV rfl ((hx.bel hS.old)) ?_)
 refine WL.op rfl (opW.moveV (v := u) rfl ?_)
 refine WL.op rfl (opW.lenV rfl ((hy.bel hS.old)) ?_)
 refine WL.op rfl (opW.neq rfl rfl ?_)
 refine WL.nil ?_
 refine thenQ_n (hK3 _ _ ?_)
 refine WC.cond _ rfl (fun hc0 => ?_) (fun hc0 => ?_)
 ·
  have hr0 := hc0
  try simp only [sq1,sq2,sq3,sq4,sq5,sq6,sq7,sq8,sq9,sq0] at hc0
  refine WC.seq (fun K4 hK4 => ?_)
  refine WC.region ?_
  refine WL.op rfl (opW.assignB rfl ?_)
  refine WL.nil ?_
  refine thenQ_n (hK4 _ _ ?_)
  refine WC.ret ?_
  refine thenQ_r ?_
  refine bodyQ_ret (.tmpB rfl .nil) ?_
  refine ⟨?_, hS.old⟩
  rw [decide_eq_false (fun e => hc0 (by rw [e]))]
  rfl
 ·
  have hr0 := hc0
  try simp only [sq1,sq2,sq3,sq4,sq5,sq6,sq7,sq8,sq9,sq0] at hc0
  have hlen : xs.length = ys.length := by omega
  refine WC.skip ?_
  refine thenQ_n (hK2 _ _ ?_)
  refine WC.seq (fun K5 hK5 => ?_)
  refine WC.seq (fun K6 hK6 => ?_)
  refine WC.region ?_
  refine WL.op rfl (opW.assignI rfl ?_)
  refine WL.nil ?_
  refine thenQ_n (hK6 _ _ ?_)
  refine WC.block ?_
  refine WC.loop (fun m f w => ∃ k : Nat, Fits [(0, v), (1, u), (5, .int .i64 (k : Int))] f ∧ St w0 [] w ∧ xs.take k = ys.take k ∧ m = xs.length - k) (xs.length) ?_ ?_
  ·
   exact ⟨0, ⟨rfl, rfl, rfl, trivial⟩, hS, rfl, rfl⟩
  ·
   rintro m f w ⟨k, hfit, hS, ht, hm⟩
   refine WC.fits _ hfit (fun g => ?_)
   clear hfit
   refine WC.seq (fun K7 hK7 => ?_)
   refine WC.seq (fun K8 hK8 => ?_)
   refine WC.region ?_
   refine WL.op rfl (opW.moveI rfl ?_)
   refine WL.op rfl (opW.moveV (v := v) rfl ?_)
   refine WL.op rfl (opW.lenV rfl ((hx.bel hS.old)) ?_)
   refine WL.op rfl (opW.lss rfl rfl ?_)
   refine WL.nil ?_
   refine thenQ_n (hK8 _ _ ?_)
   refine WC.cond _ rfl (fun hc1 => ?_) (fun hc1 => ?_)
   ·
    have hr1 := hc1
    try simp only [sq1,sq2,sq3,sq4,sq5,sq6,sq7,sq8,sq9,sq0] at hc1
    have hk1 : k < xs.length := by omega
    have hk2 : k < ys.length := by omega
    have hle := hx.le
    simp only [maxLen] at hle
    refine WC.skip ?_
    refine thenQ_n (hK7 _ _ ?_)
    refine WC.seq (fun K9 hK9 => ?_)
    refine WC.block ?_
    refine WC.seq (fun K10 hK10 => ?_)
    refine WC.draw 9 (.look 0 (.look 1 (.look 2 (.look 3 (.look 4 (.look 5 (.look 6 (.look 7 (.look 8 .nil))))))))) (by kernel_rfl) (fun _ _ _ h => h) (fun w1 hw1 => ?_)
    replace hS := hS.bel hw1
    have hS1 := hS
    have hT := St.start w1
    refine ML.look rfl rfl rfl (fun w hw => (by have hS := hS1.bel hw; exact opW.moveV (v := v) rfl ⟨rfl, rfl⟩)) ?_
    refine ML.look rfl rfl rfl (fun w hw => (by have hS := hS1.bel hw; exact opW.moveI rfl ⟨rfl, rfl⟩)) ?_
    refine ML.look rfl rfl rfl (fun w hw => (by have hS := hS1.bel hw; exact opW.idxV rfl ((hx.bel hS.old)) rfl (by omega) ⟨rfl, rfl⟩)) ?_
    refine ML.look rfl rfl rfl (fun w hw => (by have hS := hS1.bel hw; exact opW.loadV rfl ((((hx.bel hS.old).isPt hk1).ldA (Enc.size_eq _))) ⟨rfl, rfl⟩)) ?_
    refine ML.look rfl rfl rfl (fun w hw => (by have hS := hS1.bel hw; exact opW.moveV (v := u) rfl ⟨rfl, rfl⟩)) ?_
    refine ML.look rfl rfl rfl (fun w hw => (by have hS := hS1.bel hw; exact opW.moveI rfl ⟨rfl, rfl⟩)) ?_
    refine ML.look rfl rfl rfl (fun w hw => (by have hS := hS1.bel hw; exact opW.idxV rfl ((hy.bel hS.old)) rfl (by omega) ⟨rfl, rfl⟩)) ?_
    refine ML.look rfl rfl rfl (fun w hw => (by have hS := hS1.bel hw; exact opW.loadV rfl ((((hy.bel hS.old).isPt hk2).ldA (Enc.size_eq _))) ⟨rfl, rfl⟩)) ?_
    refine ML.look rfl rfl rfl (fun w hw => (by have hS := hS1.bel hw; exact opW.neqE rfl rfl ⟨rfl, rfl⟩)) ?_
    refine ML.nil ?_
    refine thenQ_n (hK10 _ _ ?_)
    refine WC.cond _ rfl (fun hc2 => ?_) (fun hc2 => ?_)
    ·
     have hr2 := hc2
     try simp only [sq1,sq2,sq3,sq4,sq5,sq6,sq7,sq8,sq9,sq0] at hc2
     refine WC.seq (fun K11 hK11 => ?_)
     refine WC.region ?_
     refine WL.op rfl (opW.assignB rfl ?_)
     refine WL.nil ?_
     refine thenQ_n (hK11 _ _ ?_)
     refine WC.ret ?_
     refine blockQ_r ?_
     refine thenQ_r ?_
     refine thenQ_r ?_
     refine blockQ_r ?_
     refine thenQ_r ?_
     refine bodyQ_ret (.tmpB rfl .nil) ?_
     refine ⟨?_, hS.old⟩
     rw [decide_eq_false (get_ne hk1 hk2 (hc2))]
     rfl
    ·
     have hr2 := hc2
     try simp only [sq1,sq2,sq3,sq4,sq5,sq6,sq7,sq8,sq9,sq0] at hc2
     refine WC.skip ?_
     refine blockQ_n ?_
     refine thenQ_n (hK9 _ _ ?_)
     refine WC.region ?_
     refine WL.op rfl (opW.moveI rfl ?_)
     refine WL.op rfl (opW.add rfl rfl (wrap_i64 (by omega)) ?_)
     refine WL.op rfl (opW.assignI rfl ?_)
     refine WL.nil ?_
     refine thenQ_n ?_
     refine ⟨xs.length - (k + 1), by omega, k + 1, ⟨rfl, rfl, congrArg (Value.int .i64) (by omega), trivial⟩, hS, take_succ_eq ht hk1 hk2 (hc2), rfl⟩
   ·
    have hr1 := hc1
    try simp only [sq1,sq2,sq3,sq4,sq5,sq6,sq7,sq8,sq9,sq0] at hc1
    refine WC.exit ?_
    refine thenQ_e ?_
    refine thenQ_e ?_
    refine blockQ_hit ?_
    refine thenQ_n (hK5 _ _ ?_)
    refine WC.seq (fun K12 hK12 => ?_)
    refine WC.region ?_
    refine WL.op rfl (opW.assignB rfl ?_)
    refine WL.nil ?_
    refine thenQ_n (hK12 _ _ ?_)
    refine WC.ret ?_
    refine bodyQ_ret (.tmpB rfl .nil) ?_
    refine ⟨?_, hS.old⟩
    rw [decide_eq_true (take_all_eq hlen ht (by omega))]
    rfl

theorem same_r (w0 : World) (v u : Value) (xs ys : List Role) (hx : SlR w0 v xs) (hy : SlR w0 u ys) : Ret Tryz.prog 63 #[v, u] w0 (fun r w' => r = .bool (decide (xs = ys)) ∧ Bel w0 w') := by
 refine Ret.enter (args := [v, u]) Tryz.func63 rfl Tryz.ntmps63 Tryz.results63 rfl ?_
 have hS := St.start w0
 refine WC.seq (fun K1 hK1 => ?_)
 refine WC.region ?_
 refine WL.op rfl (opW.assignB rfl ?_)
 refine WL.nil ?_
 refine thenQ_n (hK1 _ _ ?_)
 refine WC.seq (fun K2 hK2 => ?_)
 refine WC.seq (fun K3 hK3 => ?_)
 refine WC.region ?_
 refine WL.op rfl (opW.moveV (v := v) rfl ?_)
 refine WL.op rfl (opW.lenV rfl ((hx.bel hS.old)) ?_)
 refine WL.op rfl (opW.moveV (v := u) rfl ?_)
 refine WL.op rfl (opW.lenV rfl ((hy.bel hS.old)) ?_)
 refine WL.op rfl (opW.neq rfl rfl ?_)
 refine WL.nil ?_
 refine thenQ_n (hK3 _ _ ?_)
 refine WC.cond _ rfl (fun hc0 => ?_) (fun hc0 => ?_)
 ·
  have hr0 := hc0
  try simp only [sq1,sq2,sq3,sq4,sq5,sq6,sq7,sq8,sq9,sq0] at hc0
  refine WC.seq (fun K4 hK4 => ?_)
  refine WC.region ?_
  refine WL.op rfl (opW.assignB rfl ?_)
  refine WL.nil ?_
  refine thenQ_n (hK4 _ _ ?_)
  refine WC.ret ?_
  refine thenQ_r ?_
  refine bodyQ_ret (.tmpB rfl .nil) ?_
  refine ⟨?_, hS.old⟩
  rw [decide_eq_false (fun e => hc0 (by rw [e]))]
  rfl
 ·
  have hr0 := hc0
  try simp only [sq1,sq2,sq3,sq4,sq5,sq6,sq7,sq8,sq9,sq0] at hc0
  have hlen : xs.length = ys.length := by omega
  refine WC.skip ?_
  refine thenQ_n (hK2 _ _ ?_)
  refine WC.seq (fun K5 hK5 => ?_)
  refine WC.seq (fun K6 hK6 => ?_)
  refine WC.region ?_
  refine WL.op rfl (opW.assignI rfl ?_)
  refine WL.nil ?_
  refine thenQ_n (hK6 _ _ ?_)
  refine WC.block ?_
  refine WC.loop (fun m f w => ∃ k : Nat, Fits [(0, v), (1, u), (5, .int .i64 (k : Int))] f ∧ St w0 [] w ∧ xs.take k = ys.take k ∧ m = xs.length - k) (xs.length) ?_ ?_
  ·
   exact ⟨0, ⟨rfl, rfl, rfl, trivial⟩, hS, rfl, rfl⟩
  ·
   rintro m f w ⟨k, hfit, hS, ht, hm⟩
   refine WC.fits _ hfit (fun g => ?_)
   clear hfit
   refine WC.seq (fun K7 hK7 => ?_)
   refine WC.seq (fun K8 hK8 => ?_)
   refine WC.region ?_
   refine WL.op rfl (opW.moveI rfl ?_)
   refine WL.op rfl (opW.moveV (v := v) rfl ?_)
   refine WL.op rfl (opW.lenV rfl ((hx.bel hS.old)) ?_)
   refine WL.op rfl (opW.lss rfl rfl ?_)
   refine WL.nil ?_
   refine thenQ_n (hK8 _ _ ?_)
   refine WC.cond _ rfl (fun hc1 => ?_) (fun hc1 => ?_)
   ·
    have hr1 := hc1
    try simp only [sq1,sq2,sq3,sq4,sq5,sq6,sq7,sq8,sq9,sq0] at hc1
    have hk1 : k < xs.length := by omega
    have hk2 : k < ys.length := by omega
    have hle := hx.le
    simp only [maxLen] at hle
    refine WC.skip ?_
    refine thenQ_n (hK7 _ _ ?_)
    refine WC.seq (fun K9 hK9 => ?_)
    refine WC.block ?_
    refine WC.seq (fun K10 hK10 => ?_)
    refine WC.draw 9 (.look 0 (.look 1 (.look 2 (.look 3 (.look 4 (.look 5 (.look 6 (.look 7 (.look 8 .nil))))))))) (by kernel_rfl) (fun _ _ _ h => h) (fun w1 hw1 => ?_)
    replace hS := hS.bel hw1
    have hS1 := hS
    have hT := St.start w1
    refine ML.look rfl rfl rfl (fun w hw => (by have hS := hS1.bel hw; exact opW.moveV (v := v) rfl ⟨rfl, rfl⟩)) ?_
    refine ML.look rfl rfl rfl (fun w hw => (by have hS := hS1.bel hw; exact opW.moveI rfl ⟨rfl, rfl⟩)) ?_
    refine ML.look rfl rfl rfl (fun w hw => (by have hS := hS1.bel hw; exact opW.idxV rfl ((hx.bel hS.old)) rfl (by omega) ⟨rfl, rfl⟩)) ?_
    refine ML.look rfl rfl rfl (fun w hw => (by have hS := hS1.bel hw; exact opW.loadV rfl ((((hx.bel hS.old).isPt hk1).ldA (Enc.size_eq _))) ⟨rfl, rfl⟩)) ?_
    refine ML.look rfl rfl rfl (fun w hw => (by have hS := hS1.bel hw; exact opW.moveV (v := u) rfl ⟨rfl, rfl⟩)) ?_
    refine ML.look rfl rfl rfl (fun w hw => (by have hS := hS1.bel hw; exact opW.moveI rfl ⟨rfl, rfl⟩)) ?_
    refine ML.look rfl rfl rfl (fun w hw => (by have hS := hS1.bel hw; exact opW.idxV rfl ((hy.bel hS.old)) rfl (by omega) ⟨rfl, rfl⟩)) ?_
    refine ML.look rfl rfl rfl (fun w hw => (by have hS := hS1.bel hw; exact opW.loadV rfl ((((hy.bel hS.old).isPt hk2).ldA (Enc.size_eq _))) ⟨rfl, rfl⟩)) ?_
    refine ML.look rfl rfl rfl (fun w hw => (by have hS := hS1.bel hw; exact opW.neqE rfl rfl ⟨rfl, rfl⟩)) ?_
    refine ML.nil ?_
    refine thenQ_n (hK10 _ _ ?_)
    refine WC.cond _ rfl (fun hc2 => ?_) (fun hc2 => ?_)
    ·
     have hr2 := hc2
     try simp only [sq1,sq2,sq3,sq4,sq5,sq6,sq7,sq8,sq9,sq0] at hc2
     refine WC.seq (fun K11 hK11 => ?_)
     refine WC.region ?_
     refine WL.op rfl (opW.assignB rfl ?_)
     refine WL.nil ?_
     refine thenQ_n (hK11 _ _ ?_)
     refine WC.ret ?_
     refine blockQ_r ?_
     refine thenQ_r ?_
     refine thenQ_r ?_
     refine blockQ_r ?_
     refine thenQ_r ?_
     refine bodyQ_ret (.tmpB rfl .nil) ?_
     refine ⟨?_, hS.old⟩
     rw [decide_eq_false (get_ne hk1 hk2 (hc2))]
     rfl
    ·
     have hr2 := hc2
     try simp only [sq1,sq2,sq3,sq4,sq5,sq6,sq7,sq8,sq9,sq0] at hc2
     refine WC.skip ?_
     refine blockQ_n ?_
     refine thenQ_n (hK9 _ _ ?_)
     refine WC.region ?_
     refine WL.op rfl (opW.moveI rfl ?_)
     refine WL.op rfl (opW.add rfl rfl (wrap_i64 (by omega)) ?_)
     refine WL.op rfl (opW.assignI rfl ?_)
     refine WL.nil ?_
     refine thenQ_n ?_
     refine ⟨xs.length - (k + 1), by omega, k + 1, ⟨rfl, rfl, congrArg (Value.int .i64) (by omega), trivial⟩, hS, take_succ_eq ht hk1 hk2 (hc2), rfl⟩
   ·
    have hr1 := hc1
    try simp only [sq1,sq2,sq3,sq4,sq5,sq6,sq7,sq8,sq9,sq0] at hc1
    refine WC.exit ?_
    refine thenQ_e ?_
    refine thenQ_e ?_
    refine blockQ_hit ?_
    refine thenQ_n (hK5 _ _ ?_)
    refine WC.seq (fun K12 hK12 => ?_)
    refine WC.region ?_
    refine WL.op rfl (opW.assignB rfl ?_)
    refine WL.nil ?_
    refine thenQ_n (hK12 _ _ ?_)
    refine WC.ret ?_
    refine bodyQ_ret (.tmpB rfl .nil) ?_
    refine ⟨?_, hS.old⟩
    rw [decide_eq_true (take_all_eq hlen ht (by omega))]
    rfl

theorem same_h (w0 : World) (v u : Value) (xs ys : List Holding) (hx : SlR w0 v xs) (hy : SlR w0 u ys) : Ret Tryz.prog 34 #[v, u] w0 (fun r w' => r = .bool (decide (xs = ys)) ∧ Bel w0 w') := by
 refine Ret.enter (args := [v, u]) Tryz.func34 rfl Tryz.ntmps34 Tryz.results34 rfl ?_
 have hS := St.start w0
 refine WC.seq (fun K1 hK1 => ?_)
 refine WC.region ?_
 refine WL.op rfl (opW.assignB rfl ?_)
 refine WL.nil ?_
 refine thenQ_n (hK1 _ _ ?_)
 refine WC.seq (fun K2 hK2 => ?_)
 refine WC.seq (fun K3 hK3 => ?_)
 refine WC.region ?_
 refine WL.op rfl (opW.moveV (v := v) rfl ?_)
 refine WL.op rfl (opW.lenV rfl ((hx.bel hS.old)) ?_)
 refine WL.op rfl (opW.moveV (v := u) rfl ?_)
 refine WL.op rfl (opW.lenV rfl ((hy.bel hS.old)) ?_)
 refine WL.op rfl (opW.neq rfl rfl ?_)
 refine WL.nil ?_
 refine thenQ_n (hK3 _ _ ?_)
 refine WC.cond _ rfl (fun hc0 => ?_) (fun hc0 => ?_)
 ·
  have hr0 := hc0
  try simp only [sq1,sq2,sq3,sq4,sq5,sq6,sq7,sq8,sq9,sq0] at hc0
  refine WC.seq (fun K4 hK4 => ?_)
  refine WC.region ?_
  refine WL.op rfl (opW.assignB rfl ?_)
  refine WL.nil ?_
  refine thenQ_n (hK4 _ _ ?_)
  refine WC.ret ?_
  refine thenQ_r ?_
  refine bodyQ_ret (.tmpB rfl .nil) ?_
  refine ⟨?_, hS.old⟩
  rw [decide_eq_false (fun e => hc0 (by rw [e]))]
  rfl
 ·
  have hr0 := hc0
  try simp only [sq1,sq2,sq3,sq4,sq5,sq6,sq7,sq8,sq9,sq0] at hc0
  have hlen : xs.length = ys.length := by omega
  refine WC.skip ?_
  refine thenQ_n (hK2 _ _ ?_)
  refine WC.seq (fun K5 hK5 => ?_)
  refine WC.seq (fun K6 hK6 => ?_)
  refine WC.region ?_
  refine WL.op rfl (opW.assignI rfl ?_)
  refine WL.nil ?_
  refine thenQ_n (hK6 _ _ ?_)
  refine WC.block ?_
  refine WC.loop (fun m f w => ∃ k : Nat, Fits [(0, v), (1, u), (5, .int .i64 (k : Int))] f ∧ St w0 [] w ∧ xs.take k = ys.take k ∧ m = xs.length - k) (xs.length) ?_ ?_
  ·
   exact ⟨0, ⟨rfl, rfl, rfl, trivial⟩, hS, rfl, rfl⟩
  ·
   rintro m f w ⟨k, hfit, hS, ht, hm⟩
   refine WC.fits _ hfit (fun g => ?_)
   clear hfit
   refine WC.seq (fun K7 hK7 => ?_)
   refine WC.seq (fun K8 hK8 => ?_)
   refine WC.region ?_
   refine WL.op rfl (opW.moveI rfl ?_)
   refine WL.op rfl (opW.moveV (v := v) rfl ?_)
   refine WL.op rfl (opW.lenV rfl ((hx.bel hS.old)) ?_)
   refine WL.op rfl (opW.lss rfl rfl ?_)
   refine WL.nil ?_
   refine thenQ_n (hK8 _ _ ?_)
   refine WC.cond _ rfl (fun hc1 => ?_) (fun hc1 => ?_)
   ·
    have hr1 := hc1
    try simp only [sq1,sq2,sq3,sq4,sq5,sq6,sq7,sq8,sq9,sq0] at hc1
    have hk1 : k < xs.length := by omega
    have hk2 : k < ys.length := by omega
    have hle := hx.le
    simp only [maxLen] at hle
    refine WC.skip ?_
    refine thenQ_n (hK7 _ _ ?_)
    refine WC.seq (fun K9 hK9 => ?_)
    refine WC.block ?_
    refine WC.seq (fun K10 hK10 => ?_)
    refine WC.draw 9 (.look 0 (.look 1 (.look 2 (.look 3 (.look 4 (.look 5 (.look 6 (.look 7 (.look 8 .nil))))))))) (by kernel_rfl) (fun _ _ _ h => h) (fun w1 hw1 => ?_)
    replace hS := hS.bel hw1
    have hS1 := hS
    have hT := St.start w1
    refine ML.look rfl rfl rfl (fun w hw => (by have hS := hS1.bel hw; exact opW.moveV (v := v) rfl ⟨rfl, rfl⟩)) ?_
    refine ML.look rfl rfl rfl (fun w hw => (by have hS := hS1.bel hw; exact opW.moveI rfl ⟨rfl, rfl⟩)) ?_
    refine ML.look rfl rfl rfl (fun w hw => (by have hS := hS1.bel hw; exact opW.idxV rfl ((hx.bel hS.old)) rfl (by omega) ⟨rfl, rfl⟩)) ?_
    refine ML.look rfl rfl rfl (fun w hw => (by have hS := hS1.bel hw; exact opW.loadV rfl ((((hx.bel hS.old).isPt hk1).ldA (Enc.size_eq _))) ⟨rfl, rfl⟩)) ?_
    refine ML.look rfl rfl rfl (fun w hw => (by have hS := hS1.bel hw; exact opW.moveV (v := u) rfl ⟨rfl, rfl⟩)) ?_
    refine ML.look rfl rfl rfl (fun w hw => (by have hS := hS1.bel hw; exact opW.moveI rfl ⟨rfl, rfl⟩)) ?_
    refine ML.look rfl rfl rfl (fun w hw => (by have hS := hS1.bel hw; exact opW.idxV rfl ((hy.bel hS.old)) rfl (by omega) ⟨rfl, rfl⟩)) ?_
    refine ML.look rfl rfl rfl (fun w hw => (by have hS := hS1.bel hw; exact opW.loadV rfl ((((hy.bel hS.old).isPt hk2).ldA (Enc.size_eq _))) ⟨rfl, rfl⟩)) ?_
    refine ML.look rfl rfl rfl (fun w hw => (by have hS := hS1.bel hw; exact opW.neqE rfl rfl ⟨rfl, rfl⟩)) ?_
    refine ML.nil ?_
    refine thenQ_n (hK10 _ _ ?_)
    refine WC.cond _ rfl (fun hc2 => ?_) (fun hc2 => ?_)
    ·
     have hr2 := hc2
     try simp only [sq1,sq2,sq3,sq4,sq5,sq6,sq7,sq8,sq9,sq0] at hc2
     refine WC.seq (fun K11 hK11 => ?_)
     refine WC.region ?_
     refine WL.op rfl (opW.assignB rfl ?_)
     refine WL.nil ?_
     refine thenQ_n (hK11 _ _ ?_)
     refine WC.ret ?_
     refine blockQ_r ?_
     refine thenQ_r ?_
     refine thenQ_r ?_
     refine blockQ_r ?_
     refine thenQ_r ?_
     refine bodyQ_ret (.tmpB rfl .nil) ?_
     refine ⟨?_, hS.old⟩
     rw [decide_eq_false (get_ne hk1 hk2 (hc2))]
     rfl
    ·
     have hr2 := hc2
     try simp only [sq1,sq2,sq3,sq4,sq5,sq6,sq7,sq8,sq9,sq0] at hc2
     refine WC.skip ?_
     refine blockQ_n ?_
     refine thenQ_n (hK9 _ _ ?_)
     refine WC.region ?_
     refine WL.op rfl (opW.moveI rfl ?_)
     refine WL.op rfl (opW.add rfl rfl (wrap_i64 (by omega)) ?_)
     refine WL.op rfl (opW.assignI rfl ?_)
     refine WL.nil ?_
     refine thenQ_n ?_
     refine ⟨xs.length - (k + 1), by omega, k + 1, ⟨rfl, rfl, congrArg (Value.int .i64) (by omega), trivial⟩, hS, take_succ_eq ht hk1 hk2 (hc2), rfl⟩
   ·
    have hr1 := hc1
    try simp only [sq1,sq2,sq3,sq4,sq5,sq6,sq7,sq8,sq9,sq0] at hc1
    refine WC.exit ?_
    refine thenQ_e ?_
    refine thenQ_e ?_
    refine blockQ_hit ?_
    refine thenQ_n (hK5 _ _ ?_)
    refine WC.seq (fun K12 hK12 => ?_)
    refine WC.region ?_
    refine WL.op rfl (opW.assignB rfl ?_)
    refine WL.nil ?_
    refine thenQ_n (hK12 _ _ ?_)
    refine WC.ret ?_
    refine bodyQ_ret (.tmpB rfl .nil) ?_
    refine ⟨?_, hS.old⟩
    rw [decide_eq_true (take_all_eq hlen ht (by omega))]
    rfl

theorem twin_Account (w0 : World) (v : Value) (xs : List Account) (mk : Account) (hx : SlR w0 v xs) (hl : xs.length ≤ 100000) : Ret Tryz.prog 22 #[v, .agg (Enc.enc mk)] w0 (fun u w' => ∃ fv, u = cutV fv 0 xs.length (xs.length + 3) (Enc.sz Account) ∧ capV fv = xs.length + 3 ∧ New w0 w' fv 69 (xs ++ [mk, mk, mk]) ∧ Bel w0 w') := by
 refine Ret.enter (args := [v, .agg (Enc.enc mk)]) Tryz.func22 rfl Tryz.ntmps22 Tryz.results22 rfl ?_
 have hS := St.start w0
 refine WC.seq (fun K1 hK1 => ?_)
 refine WC.region ?_
 refine WL.op rfl (opW.boxA hS rfl ?_)
 intro b3 w _ hS
 refine WL.op rfl (opW.assignV (v := .slice none 0 0) rfl ?_)
 refine WL.nil ?_
 refine thenQ_n (hK1 _ _ ?_)
 refine WC.seq (fun K2 hK2 => ?_)
 refine WC.region ?_
 refine WL.op rfl (opW.moveV (v := v) rfl ?_)
 refine WL.op rfl (opW.lenV rfl ((hx.bel hS.old)) ?_)
 refine WL.op rfl (opW.add rfl rfl (wrap_i64 (by omega)) ?_)
 refine WL.op rfl (opW.makeSl (α := Account) (n := xs.length + 3) ((⟨0, vz 32, 0⟩ : Account)) (by first | rfl | (rw [enc_vz]; rfl) | (simp only [Account.enc_eq, Account.parts, Role.enc_eq, Role.parts, Instr.enc_eq, Instr.parts, Ask.enc_eq, Ask.parts, Cut.enc_eq, Cut.parts, PairS.enc_eq, PairS.parts, RAsk.enc_eq, RAsk.parts, Header.enc_eq, Header.parts, Lookup.enc_eq, Lookup.parts, Message.enc_eq, Message.parts, Tx.enc_eq, Tx.parts, Budget.enc_eq, Budget.parts, Ready.enc_eq, Ready.parts, Holding.enc_eq, Holding.parts, Outcome.enc_eq, Outcome.parts, Running.enc_eq, Running.parts, StS.enc_eq, StS.parts]; rw [enc_vz]; rfl)) hS rfl rfl (by omega) (by simp only [maxLen]; omega) ?_)
 intro b11 w _ hS
 refine WL.op rfl (opW.assignV (v := (.slice (some ⟨b11, 0, none⟩) (xs.length + 3) (xs.length + 3))) rfl ?_)
 refine WL.nil ?_
 refine thenQ_n (hK2 _ _ ?_)
 refine WC.seq (fun K3 hK3 => ?_)
 refine WC.seq (fun K4 hK4 => ?_)
 refine WC.region ?_
 refine WL.op rfl (opW.assignI rfl ?_)
 refine WL.nil ?_
 refine thenQ_n (hK4 _ _ ?_)
 refine WC.block ?_
 refine WC.loop (fun q f w => ∃ k : Nat, Fits [(0, v), (3, .pointer (some ⟨b3, 0, none⟩)), (5, (.slice (some ⟨b11, 0, none⟩) (xs.length + 3) (xs.length + 3))), (6, .int .i64 (k : Int))] f ∧ St w0 [ownE (.slice (some ⟨b11, 0, none⟩) (xs.length + 3) (xs.length + 3)) 69 (xs.take k ++ List.replicate (xs.length + 3 - k) (⟨0, vz 32, 0⟩ : Account)), blkE b3 (Enc.enc mk) 69] w ∧ k ≤ xs.length ∧ q = xs.length - k) (xs.length) ?_ ?_
 ·
  exact ⟨0, ⟨rfl, rfl, rfl, rfl, trivial⟩, hS, Nat.zero_le _, rfl⟩
 ·
  rintro q f w ⟨k, hfit, hS, hk0, hm⟩
  refine WC.fits _ hfit (fun g => ?_)
  clear hfit
  refine WC.seq (fun K5 hK5 => ?_)
  refine WC.seq (fun K6 hK6 => ?_)
  refine WC.region ?_
  refine WL.op rfl (opW.moveI rfl ?_)
  refine WL.op rfl (opW.moveV (v := v) rfl ?_)
  refine WL.op rfl (opW.lenV rfl ((hx.bel hS.old)) ?_)
  refine WL.op rfl (opW.lss rfl rfl ?_)
  refine WL.nil ?_
  refine thenQ_n (hK6 _ _ ?_)
  refine WC.cond _ rfl (fun hc0 => ?_) (fun hc0 => ?_)
  ·
   have hr0 := hc0
   try simp only [sq1,sq2,sq3,sq4,sq5,sq6,sq7,sq8,sq9,sq0] at hc0
   have hkl : k < xs.length := by omega
   have hll : (xs.take k ++ List.replicate (xs.length + 3 - k) (⟨0, vz 32, 0⟩ : Account)).length = xs.length + 3 := by simp; omega
   refine WC.skip ?_
   refine thenQ_n (hK5 _ _ ?_)
   refine WC.seq (fun K7 hK7 => ?_)
   refine WC.block ?_
   refine WC.region ?_
   refine WL.op rfl (opW.moveV (v := (.slice (some ⟨b11, 0, none⟩) (xs.length + 3) (xs.length + 3))) rfl ?_)
   refine WL.op rfl (opW.moveI rfl ?_)
   refine WL.op rfl (opW.moveV (v := v) rfl ?_)
   refine WL.op rfl (opW.moveI rfl ?_)
   refine WL.op rfl (opW.idxV rfl ((hx.bel hS.old)) rfl (by omega) ?_)
   refine WL.op rfl (opW.loadV rfl (((hx.bel hS.old).isPt hkl).ldA (Enc.size_eq _)) ?_)
   refine WL.op rfl (opW.idxV rfl (hS.sl (v := (.slice (some ⟨b11, 0, none⟩) (xs.length + 3) (xs.length + 3))) (xs := (xs.take k ++ List.replicate (xs.length + 3 - k) (⟨0, vz 32, 0⟩ : Account))) (by repeat constructor)) rfl (by omega) ?_)
   refine WL.op0 (opW.storeOwn (v := (.slice (some ⟨b11, 0, none⟩) (xs.length + 3) (xs.length + 3))) (u := .agg (Enc.enc xs[k])) (xs := (xs.take k ++ List.replicate (xs.length + 3 - k) (⟨0, vz 32, 0⟩ : Account))) (i := k) (off := 0) (y' := xs[k]) hS (by repeat constructor) (by omega) (ptrAdd_zero (.slice (some ⟨b11, 0, none⟩) (xs.length + 3) (xs.length + 3)) k (Enc.sz Account)).symm rfl (by first | exact Enc.size_eq (α := Account) xs[k] | rfl) (by first | exact Nat.le_refl _ | decide) (Enc.one (xs[k])) (spl_all (by rw [Enc.size_eq]; first | exact Enc.size_eq (α := Account) xs[k] | rfl)) ?_)
   intro w hS; replace hS := hS _ (by repeat constructor)
   refine WL.nil ?_
   refine blockQ_n ?_
   refine thenQ_n (hK7 _ _ ?_)
   refine WC.region ?_
   refine WL.op rfl (opW.moveI rfl ?_)
   refine WL.op rfl (opW.add rfl rfl (wrap_i64 (by omega)) ?_)
   refine WL.op rfl (opW.assignI rfl ?_)
   refine WL.nil ?_
   refine thenQ_n ?_
   rw [twin_set1 hkl] at hS
   exact ⟨xs.length - (k + 1), by omega, k + 1, ⟨rfl, rfl, rfl, congrArg (Value.int .i64) (by omega), trivial⟩, hS, by omega, rfl⟩
  ·
   have hr0 := hc0
   try simp only [sq1,sq2,sq3,sq4,sq5,sq6,sq7,sq8,sq9,sq0] at hc0
   obtain rfl : k = xs.length := by omega
   rw [twin_mid] at hS
   refine WC.exit ?_
   refine thenQ_e ?_
   refine thenQ_e ?_
   refine blockQ_hit ?_
   refine thenQ_n (hK3 _ _ ?_)
   refine WC.seq (fun K8 hK8 => ?_)
   refine WC.seq (fun K9 hK9 => ?_)
   refine WC.region ?_
   refine WL.op rfl (opW.assignI rfl ?_)
   refine WL.nil ?_
   refine thenQ_n (hK9 _ _ ?_)
   refine WC.block ?_
   refine WC.loop (fun q f w => ∃ k : Nat, Fits [(0, v), (3, .pointer (some ⟨b3, 0, none⟩)), (5, (.slice (some ⟨b11, 0, none⟩) (xs.length + 3) (xs.length + 3))), (7, .int .i64 (k : Int))] f ∧ St w0 [ownE (.slice (some ⟨b11, 0, none⟩) (xs.length + 3) (xs.length + 3)) 69 (xs ++ (List.replicate k mk ++ List.replicate (3 - k) (⟨0, vz 32, 0⟩ : Account))), blkE b3 (Enc.enc mk) 69] w ∧ k ≤ 3 ∧ q = 3 - k) (3) ?_ ?_
   ·
    exact ⟨0, ⟨rfl, rfl, rfl, rfl, trivial⟩, hS, Nat.zero_le _, rfl⟩
   ·
    rintro q f w ⟨k, hfit, hS, hk0, hm⟩
    refine WC.fits _ hfit (fun g => ?_)
    clear hfit
    refine WC.seq (fun K10 hK10 => ?_)
    refine WC.seq (fun K11 hK11 => ?_)
    refine WC.region ?_
    refine WL.op rfl (opW.moveI rfl ?_)
    refine WL.op rfl (opW.lss rfl rfl ?_)
    refine WL.nil ?_
    refine thenQ_n (hK11 _ _ ?_)
    refine WC.cond _ rfl (fun hc1 => ?_) (fun hc1 => ?_)
    ·
     have hr1 := hc1
     try simp only [sq1,sq2,sq3,sq4,sq5,sq6,sq7,sq8,sq9,sq0] at hc1
     have hkl : k < 3 := by omega
     have hll : (xs ++ (List.replicate k mk ++ List.replicate (3 - k) (⟨0, vz 32, 0⟩ : Account))).length = xs.length + 3 := by simp; omega
     refine WC.skip ?_
     refine thenQ_n (hK10 _ _ ?_)
     refine WC.seq (fun K12 hK12 => ?_)
     refine WC.block ?_
     refine WC.region ?_
     refine WL.op rfl (opW.moveV (v := (.slice (some ⟨b11, 0, none⟩) (xs.length + 3) (xs.length + 3))) rfl ?_)
     refine WL.op rfl (opW.moveV (v := v) rfl ?_)
     refine WL.op rfl (opW.lenV rfl ((hx.bel hS.old)) ?_)
     refine WL.op rfl (opW.moveI rfl ?_)
     refine WL.op rfl (opW.add rfl rfl (wrap_i64 (by omega)) ?_)
     refine WL.op rfl (opW.loadV rfl (hS.ldA (cs := Enc.enc mk) (by repeat constructor) (Enc.size_eq _)) ?_)
     refine WL.op rfl (opW.idxV rfl (hS.sl (v := (.slice (some ⟨b11, 0, none⟩) (xs.length + 3) (xs.length + 3))) (xs := (xs ++ (List.replicate k mk ++ List.replicate (3 - k) (⟨0, vz 32, 0⟩ : Account)))) (by repeat constructor)) rfl (by omega) ?_)
     refine WL.op0 (opW.storeOwn (v := (.slice (some ⟨b11, 0, none⟩) (xs.length + 3) (xs.length + 3))) (u := .agg (Enc.enc mk)) (xs := (xs ++ (List.replicate k mk ++ List.replicate (3 - k) (⟨0, vz 32, 0⟩ : Account)))) (i := xs.length + k) (off := 0) (y' := mk) hS (by repeat constructor) (by omega) (ptrAdd_zero (.slice (some ⟨b11, 0, none⟩) (xs.length + 3) (xs.length + 3)) (xs.length + k) (Enc.sz Account)).symm rfl (by first | exact Enc.size_eq (α := Account) mk | rfl) (by first | exact Nat.le_refl _ | decide) (Enc.one mk) (spl_all (by rw [Enc.size_eq]; first | exact Enc.size_eq (α := Account) mk | rfl)) ?_)
     intro w hS; replace hS := hS _ (by repeat constructor)
     refine WL.nil ?_
     refine blockQ_n ?_
     refine thenQ_n (hK12 _ _ ?_)
     refine WC.region ?_
     refine WL.op rfl (opW.moveI rfl ?_)
     refine WL.op rfl (opW.add rfl rfl (wrap_i64 (by omega)) ?_)
     refine WL.op rfl (opW.assignI rfl ?_)
     refine WL.nil ?_
     refine thenQ_n ?_
     rw [twin_set2 hkl] at hS
     exact ⟨3 - (k + 1), by omega, k + 1, ⟨rfl, rfl, rfl, congrArg (Value.int .i64) (by omega), trivial⟩, hS, by omega, rfl⟩
    ·
     have hr1 := hc1
     try simp only [sq1,sq2,sq3,sq4,sq5,sq6,sq7,sq8,sq9,sq0] at hc1
     obtain rfl : k = 3 := by omega
     have hS3 : St w0 [ownE (.slice (some ⟨b11, 0, none⟩) (xs.length + 3) (xs.length + 3)) 69 (xs ++ [mk, mk, mk]), blkE b3 (Enc.enc mk) 69] w := hS
     clear hS
     have hS := hS3
     refine WC.exit ?_
     refine thenQ_e ?_
     refine thenQ_e ?_
     refine blockQ_hit ?_
     refine thenQ_n (hK8 _ _ ?_)
     refine WC.seq (fun K13 hK13 => ?_)
     refine WC.region ?_
     refine WL.op rfl (opW.moveV (v := (.slice (some ⟨b11, 0, none⟩) (xs.length + 3) (xs.length + 3))) rfl ?_)
     refine WL.op rfl (opW.moveV (v := v) rfl ?_)
     refine WL.op rfl (opW.lenV rfl ((hx.bel hS.old)) ?_)
     refine WL.op rfl (opW.cutS (l := 0) (h' := xs.length) (m := xs.length + 3) (hS.sl (v := (.slice (some ⟨b11, 0, none⟩) (xs.length + 3) (xs.length + 3))) (xs := xs ++ [mk, mk, mk]) (by repeat constructor)) ⟨rfl, Nat.le_refl _⟩ ⟨⟨_, rfl⟩, by omega⟩ ⟨rfl, Nat.zero_le _⟩ ?_)
     refine WL.op rfl (opW.assignV (v := (cutV (.slice (some ⟨b11, 0, none⟩) (xs.length + 3) (xs.length + 3)) 0 xs.length (xs.length + 3) (Enc.sz Account))) rfl ?_)
     refine WL.nil ?_
     refine thenQ_n (hK13 _ _ ?_)
     refine WC.ret ?_
     refine bodyQ_ret (.tmpV (v := cutV (.slice (some ⟨b11, 0, none⟩) (xs.length + 3) (xs.length + 3)) 0 xs.length (xs.length + 3) (Enc.sz Account)) rfl .nil) ?_
     exact ⟨(.slice (some ⟨b11, 0, none⟩) (xs.length + 3) (xs.length + 3)), rfl, rfl, hS.own_new (by repeat constructor), hS.old⟩

theorem left_Account (w0 : World) (fv u : Value) (xs : List Account) (mk : Account) (hcf : capV fv = xs.length + 3) (hf : SlR w0 fv (xs ++ [mk, mk, mk])) (hu : SlR w0 u xs) : Ret Tryz.prog 39 #[(cutV fv 0 xs.length (xs.length + 3) (Enc.sz Account)), u, .agg (Enc.enc mk)] w0 (fun r w' => r = .bool true ∧ Bel w0 w') := by
 refine Ret.enter (args := [(cutV fv 0 xs.length (xs.length + 3) (Enc.sz Account)), u, .agg (Enc.enc mk)]) Tryz.func39 rfl Tryz.ntmps39 Tryz.results39 rfl ?_
 have hS := St.start w0
 have hlx : (xs ++ [mk, mk, mk]).length = xs.length + 3 := by simp
 have ht : SlR w0 (cutV fv 0 xs.length (xs.length + 3) (Enc.sz Account)) xs := by
  have := hf.head (m := xs.length + 3) (by omega) (by omega)
  exact this
 have hct : capV (cutV fv 0 xs.length (xs.length + 3) (Enc.sz Account)) = xs.length + 3 := by obtain ⟨a, c, h⟩ := hf.eq; rw [h]; simp [cutV, capV]
 have hr : SlR w0 (cutV (cutV fv 0 xs.length (xs.length + 3) (Enc.sz Account)) 0 (xs.length + 3) (xs.length + 3) (Enc.sz Account)) (xs ++ [mk, mk, mk]) := by
  have := hf.front (k := xs.length + 3) (m := xs.length + 3) (by omega) (Nat.le_refl _) (by omega)
  rw [List.take_of_length_le (by omega)] at this
  rw [cutV_cut0]
  exact this
 have hle := hf.le
 rw [hlx] at hle
 simp only [maxLen] at hle
 refine WC.seq (fun K1 hK1 => ?_)
 refine WC.region ?_
 refine WL.op rfl (opW.boxA hS rfl ?_)
 intro b5 w _ hS
 refine WL.op rfl (opW.assignB rfl ?_)
 refine WL.nil ?_
 refine thenQ_n (hK1 _ _ ?_)
 refine WC.seq (fun K2 hK2 => ?_)
 refine WC.seq (fun K3 hK3 => ?_)
 refine WC.region ?_
 refine WL.op rfl (opW.moveV (v := (cutV fv 0 xs.length (xs.length + 3) (Enc.sz Account))) rfl ?_)
 refine WL.op rfl (opW.moveV (v := u) rfl ?_)
 refine WL.op rfl (opW.call (same_a _ _ _ xs xs (ht.bel hS.old) (hu.bel hS.old)) rfl ?_)
 rintro _ w ⟨rfl, hw⟩; replace hS := hS.bel hw
 rw [decide_eq_true (rfl : xs = xs)]
 refine WL.op rfl (opW.not rfl ?_)
 refine WL.op rfl (opW.moveB rfl ?_)
 refine WL.gT 13 rfl rfl rfl (WL.op rfl (opW.moveV (v := (cutV fv 0 xs.length (xs.length + 3) (Enc.sz Account))) rfl ?_))
 refine WL.gT 13 rfl rfl rfl (WL.op rfl (opW.cap (v := (cutV fv 0 xs.length (xs.length + 3) (Enc.sz Account))) rfl (ht.bel hS.old) ?_))
 refine WL.gT 13 rfl rfl rfl (WL.op rfl (opW.moveV (v := u) rfl ?_))
 refine WL.gT 13 rfl rfl rfl (WL.op rfl (opW.lenV rfl ((hu.bel hS.old)) ?_))
 refine WL.gT 13 rfl rfl rfl (WL.op rfl (opW.add rfl rfl (wrap_i64 (by omega)) ?_))
 refine WL.gT 13 rfl rfl rfl (WL.op rfl (opW.lss rfl rfl ?_))
 refine WL.op rfl (opW.pickT rfl rfl ?_)
 refine WL.nil ?_
 refine thenQ_n (hK3 _ _ ?_)
 refine WC.cond _ rfl (fun hc0 => ?_) (fun hc0 => ?_)
 ·
  have hr0 := hc0
  try simp only [sq1,sq2,sq3,sq4,sq5,sq6,sq7,sq8,sq9,sq0] at hc0
  simp [hct] at hr0
 ·
  have hr0 := hc0
  try simp only [sq1,sq2,sq3,sq4,sq5,sq6,sq7,sq8,sq9,sq0] at hc0
  refine WC.skip ?_
  refine thenQ_n (hK2 _ _ ?_)
  refine WC.seq (fun K4 hK4 => ?_)
  refine WC.region ?_
  refine WL.op rfl (opW.moveV (v := (cutV fv 0 xs.length (xs.length + 3) (Enc.sz Account))) rfl ?_)
  refine WL.op rfl (opW.moveV (v := u) rfl ?_)
  refine WL.op rfl (opW.lenV rfl ((hu.bel hS.old)) ?_)
  refine WL.op rfl (opW.add rfl rfl (wrap_i64 (by omega)) ?_)
  refine WL.op rfl (opW.cutS (l := 0) (h' := xs.length + 3) (m := xs.length + 3) (ht.bel hS.old) ⟨hct.symm, Nat.le_of_eq hct.symm⟩ ⟨⟨_, rfl⟩, Nat.le_refl _⟩ ⟨rfl, Nat.zero_le _⟩ ?_)
  refine WL.op rfl (opW.assignV (v := (cutV (cutV fv 0 xs.length (xs.length + 3) (Enc.sz Account)) 0 (xs.length + 3) (xs.length + 3) (Enc.sz Account))) rfl ?_)
  refine WL.nil ?_
  refine thenQ_n (hK4 _ _ ?_)
  refine WC.seq (fun K5 hK5 => ?_)
  refine WC.seq (fun K6 hK6 => ?_)
  refine WC.region ?_
  refine WL.op rfl (opW.assignI rfl ?_)
  refine WL.nil ?_
  refine thenQ_n (hK6 _ _ ?_)
  refine WC.block ?_
  refine WC.loop (fun q f w => ∃ k : Nat, Fits [(1, u), (5, .pointer (some ⟨b5, 0, none⟩)), (7, (cutV (cutV fv 0 xs.length (xs.length + 3) (Enc.sz Account)) 0 (xs.length + 3) (xs.length + 3) (Enc.sz Account))), (8, .int .i64 (k : Int))] f ∧ St w0 [blkE b5 (Enc.enc mk) 69] w ∧ k ≤ 3 ∧ q = 3 - k) (3) ?_ ?_
  ·
   exact ⟨0, ⟨rfl, rfl, rfl, rfl, trivial⟩, hS, Nat.zero_le _, rfl⟩
  ·
   rintro q f w ⟨k, hfit, hS, hk0, hm⟩
   refine WC.fits _ hfit (fun g => ?_)
   clear hfit
   refine WC.seq (fun K7 hK7 => ?_)
   refine WC.seq (fun K8 hK8 => ?_)
   refine WC.region ?_
   refine WL.op rfl (opW.moveI rfl ?_)
   refine WL.op rfl (opW.lss rfl rfl ?_)
   refine WL.nil ?_
   refine thenQ_n (hK8 _ _ ?_)
   refine WC.cond _ rfl (fun hc1 => ?_) (fun hc1 => ?_)
   ·
    have hr1 := hc1
    try simp only [sq1,sq2,sq3,sq4,sq5,sq6,sq7,sq8,sq9,sq0] at hc1
    have hkl : k < 3 := by omega
    have hkx : xs.length + k < (xs ++ [mk, mk, mk]).length := by omega
    refine WC.skip ?_
    refine thenQ_n (hK7 _ _ ?_)
    refine WC.seq (fun K9 hK9 => ?_)
    refine WC.block ?_
    refine WC.seq (fun K10 hK10 => ?_)
    refine WC.draw 9 (.look 0 (.look 1 (.look 2 (.look 3 (.look 4 (.look 5 (.look 6 (.look 7 (.look 8 .nil))))))))) (by kernel_rfl) (fun _ _ _ h => h) (fun w1 hw1 => ?_)
    replace hS := hS.bel hw1
    have hS1 := hS
    have hT := St.start w1
    refine ML.look rfl rfl rfl (fun w hw => (by have hS := hS1.bel hw; exact opW.moveV (v := (cutV (cutV fv 0 xs.length (xs.length + 3) (Enc.sz Account)) 0 (xs.length + 3) (xs.length + 3) (Enc.sz Account))) rfl ⟨rfl, rfl⟩)) ?_
    refine ML.look rfl rfl rfl (fun w hw => (by have hS := hS1.bel hw; exact opW.moveV (v := u) rfl ⟨rfl, rfl⟩)) ?_
    refine ML.look rfl rfl rfl (fun w hw => (by have hS := hS1.bel hw; exact opW.lenV rfl ((hu.bel hS.old)) ⟨rfl, rfl⟩)) ?_
    refine ML.look rfl rfl rfl (fun w hw => (by have hS := hS1.bel hw; exact opW.moveI rfl ⟨rfl, rfl⟩)) ?_
    refine ML.look rfl rfl rfl (fun w hw => (by have hS := hS1.bel hw; exact opW.add rfl rfl (wrap_i64 (by omega)) ⟨rfl, rfl⟩)) ?_
    refine ML.look rfl rfl rfl (fun w hw => (by have hS := hS1.bel hw; exact opW.idxV rfl ((hr.bel hS.old)) rfl (by omega) ⟨rfl, rfl⟩)) ?_
    refine ML.look rfl rfl rfl (fun w hw => (by have hS := hS1.bel hw; exact opW.loadV rfl (((hr.bel hS.old).isPt (i := xs.length + k) hkx).ldA (Enc.size_eq _)) ⟨rfl, rfl⟩)) ?_
    refine ML.look rfl rfl rfl (fun w hw => (by have hS := hS1.bel hw; exact opW.loadV rfl (hS.ldA (cs := Enc.enc mk) (by repeat constructor) (Enc.size_eq _)) ⟨rfl, rfl⟩)) ?_
    refine ML.look rfl rfl rfl (fun w hw => (by have hS := hS1.bel hw; exact opW.neqE rfl rfl ⟨rfl, rfl⟩)) ?_
    refine ML.nil ?_
    refine thenQ_n (hK10 _ _ ?_)
    refine WC.cond _ rfl (fun hc2 => ?_) (fun hc2 => ?_)
    ·
     have hr2 := hc2
     try simp only [sq1,sq2,sq3,sq4,sq5,sq6,sq7,sq8,sq9,sq0] at hc2
     have hg : (xs ++ [mk, mk, mk])[xs.length + k] = mk := by
      rw [List.getElem_append_right (by omega)]
      rcases (by omega : k = 0 ∨ k = 1 ∨ k = 2) with rfl | rfl | rfl <;> simp
     rw [hg] at hr2
     simp at hr2
    ·
     have hr2 := hc2
     try simp only [sq1,sq2,sq3,sq4,sq5,sq6,sq7,sq8,sq9,sq0] at hc2
     refine WC.skip ?_
     refine blockQ_n ?_
     refine thenQ_n (hK9 _ _ ?_)
     refine WC.region ?_
     refine WL.op rfl (opW.moveI rfl ?_)
     refine WL.op rfl (opW.add rfl rfl (wrap_i64 (by omega)) ?_)
     refine WL.op rfl (opW.assignI rfl ?_)
     refine WL.nil ?_
     refine thenQ_n ?_
     exact ⟨3 - (k + 1), by omega, k + 1, ⟨rfl, rfl, rfl, congrArg (Value.int .i64) (by omega), trivial⟩, hS, by omega, rfl⟩
   ·
    have hr1 := hc1
    try simp only [sq1,sq2,sq3,sq4,sq5,sq6,sq7,sq8,sq9,sq0] at hc1
    refine WC.exit ?_
    refine thenQ_e ?_
    refine thenQ_e ?_
    refine blockQ_hit ?_
    refine thenQ_n (hK5 _ _ ?_)
    refine WC.seq (fun K11 hK11 => ?_)
    refine WC.region ?_
    refine WL.op rfl (opW.assignB rfl ?_)
    refine WL.nil ?_
    refine thenQ_n (hK11 _ _ ?_)
    refine WC.ret ?_
    refine bodyQ_ret (.tmpB rfl .nil) ?_
    exact ⟨rfl, hS.old⟩

@[irreducible] def markA : Account := ⟨42330, vz 32, 0⟩
theorem markA_eq : markA = ⟨42330, vz 32, 0⟩ := by unfold markA; rfl

theorem markAccount_ok (w0 : World) : Ret Tryz.prog 23 #[] w0 (fun u w' => u = .agg (Enc.enc markA) ∧ Bel w0 w') := by
 refine Ret.enter (args := []) Tryz.func23 rfl Tryz.ntmps23 Tryz.results23 rfl ?_
 have hS := St.start w0
 refine WC.seq (fun K1 hK1 => ?_)
 refine WC.region ?_
 refine WL.op rfl (opW.allocA hS ?_)
 intro b0 w _ hS
 refine WL.nil ?_
 refine thenQ_n (hK1 _ _ ?_)
 refine WC.seq (fun K2 hK2 => ?_)
 refine WC.region ?_
 refine WL.op rfl (opW.buildE (r := ((⟨42330, vz 32, 0⟩ : Account) : Account)) (ps := Account.parts ((⟨42330, vz 32, 0⟩ : Account) : Account)) (Account.enc_eq _) (by first | (simp only [sysK, az, markK, markS, enc_vset, enc_vz, Account.enc_eq, Account.parts, Role.enc_eq, Role.parts, Instr.enc_eq, Instr.parts, Ask.enc_eq, Ask.parts, Cut.enc_eq, Cut.parts, PairS.enc_eq, PairS.parts, RAsk.enc_eq, RAsk.parts, Header.enc_eq, Header.parts, Lookup.enc_eq, Lookup.parts, Message.enc_eq, Message.parts, Tx.enc_eq, Tx.parts, Budget.enc_eq, Budget.parts, Ready.enc_eq, Ready.parts, Holding.enc_eq, Holding.parts, Outcome.enc_eq, Outcome.parts, Running.enc_eq, Running.parts, StS.enc_eq, StS.parts]; rfl) | rfl) (by (repeat' (first | exact trivial | refine And.intro ?_ ?_)) <;> first | rfl | exact Enc.size_eq _ | (simp; done)) ?_)
 refine WL.op0 (opW.storeE hS rfl rfl (by repeat constructor) (by first | rfl | exact Enc.size_eq _) ?_)
 intro w hS; replace hS := hS _ (by repeat constructor)
 refine WL.nil ?_
 refine thenQ_n (hK2 _ _ ?_)
 refine WC.ret ?_
 refine bodyQ_ret (.cell (hS.ldA (by repeat constructor) (Enc.size_eq (⟨42330, vz 32, 0⟩ : Account))) .nil) ?_
 rw [markA_eq]
 exact ⟨rfl, hS.old⟩

theorem twinAccounts_ok (w0 : World) (v : Value) (xs : List Account) (hx : SlR w0 v xs) (hl : xs.length ≤ 100000) : Ret Tryz.prog 7 #[v] w0 (fun u w' => ∃ fv, u = (cutV fv 0 xs.length (xs.length + 3) (Enc.sz Account)) ∧ capV fv = xs.length + 3 ∧ New w0 w' fv 69 (xs ++ [markA, markA, markA]) ∧ Bel w0 w') := by
 refine Ret.enter (args := [v]) Tryz.func7 rfl Tryz.ntmps7 Tryz.results7 rfl ?_
 have hS := St.start w0
 refine WC.seq (fun K1 hK1 => ?_)
 refine WC.region ?_
 refine WL.op rfl (opW.assignV (v := .slice none 0 0) rfl ?_)
 refine WL.nil ?_
 refine thenQ_n (hK1 _ _ ?_)
 refine WC.seq (fun K2 hK2 => ?_)
 refine WC.region ?_
 refine WL.op rfl (opW.moveV (v := v) rfl ?_)
 refine WL.op rfl (opW.call (markAccount_ok _) rfl ?_)
 rintro _ w ⟨rfl, hw⟩; replace hS := hS.bel hw
 refine WL.op rfl (opW.call (twin_Account _ v xs markA (hx.bel hS.old) hl) rfl ?_)
 rintro _ w ⟨fv, rfl, hc, hn, hw⟩
 replace hS := hS.newOwn hw hn.1 hn.2
 refine WL.op rfl (opW.assignV (v := (cutV fv 0 xs.length (xs.length + 3) (Enc.sz Account))) rfl ?_)
 refine WL.nil ?_
 refine thenQ_n (hK2 _ _ ?_)
 refine WC.ret ?_
 refine bodyQ_ret (.tmpV (v := (cutV fv 0 xs.length (xs.length + 3) (Enc.sz Account))) rfl .nil) ?_
 exact ⟨fv, rfl, hc, hS.own_new (by repeat constructor), hS.old⟩

theorem leftAccounts_ok (w0 : World) (fv u : Value) (xs : List Account) (hcf : capV fv = xs.length + 3) (hf : SlR w0 fv (xs ++ [markA, markA, markA])) (hu : SlR w0 u xs) : Ret Tryz.prog 12 #[(cutV fv 0 xs.length (xs.length + 3) (Enc.sz Account)), u] w0 (fun r w' => r = .bool true ∧ Bel w0 w') := by
 refine Ret.enter (args := [(cutV fv 0 xs.length (xs.length + 3) (Enc.sz Account)), u]) Tryz.func12 rfl Tryz.ntmps12 Tryz.results12 rfl ?_
 have hS := St.start w0
 refine WC.seq (fun K1 hK1 => ?_)
 refine WC.region ?_
 refine WL.op rfl (opW.assignB rfl ?_)
 refine WL.nil ?_
 refine thenQ_n (hK1 _ _ ?_)
 refine WC.seq (fun K2 hK2 => ?_)
 refine WC.region ?_
 refine WL.op rfl (opW.moveV (v := (cutV fv 0 xs.length (xs.length + 3) (Enc.sz Account))) rfl ?_)
 refine WL.op rfl (opW.moveV (v := u) rfl ?_)
 refine WL.op rfl (opW.call (markAccount_ok _) rfl ?_)
 rintro _ w ⟨rfl, hw⟩; replace hS := hS.bel hw
 refine WL.op rfl (opW.call (left_Account _ fv u xs markA hcf (hf.bel hS.old) (hu.bel hS.old)) rfl ?_)
 rintro _ w ⟨rfl, hw⟩; replace hS := hS.bel hw
 refine WL.op rfl (opW.assignB rfl ?_)
 refine WL.nil ?_
 refine thenQ_n (hK2 _ _ ?_)
 refine WC.ret ?_
 refine bodyQ_ret (.tmpB rfl .nil) ?_
 exact ⟨rfl, hS.old⟩

theorem twin_Role (w0 : World) (v : Value) (xs : List Role) (mk : Role) (hx : SlR w0 v xs) (hl : xs.length ≤ 100000) : Ret Tryz.prog 50 #[v, .agg (Enc.enc mk)] w0 (fun u w' => ∃ fv, u = cutV fv 0 xs.length (xs.length + 3) (Enc.sz Role) ∧ capV fv = xs.length + 3 ∧ New w0 w' fv 91 (xs ++ [mk, mk, mk]) ∧ Bel w0 w') := by
 refine Ret.enter (args := [v, .agg (Enc.enc mk)]) Tryz.func50 rfl Tryz.ntmps50 Tryz.results50 rfl ?_
 have hS := St.start w0
 refine WC.seq (fun K1 hK1 => ?_)
 refine WC.region ?_
 refine WL.op rfl (opW.boxA hS rfl ?_)
 intro b3 w _ hS
 refine WL.op rfl (opW.assignV (v := .slice none 0 0) rfl ?_)
 refine WL.nil ?_
 refine thenQ_n (hK1 _ _ ?_)
 refine WC.seq (fun K2 hK2 => ?_)
 refine WC.region ?_
 refine WL.op rfl (opW.moveV (v := v) rfl ?_)
 refine WL.op rfl (opW.lenV rfl ((hx.bel hS.old)) ?_)
 refine WL.op rfl (opW.add rfl rfl (wrap_i64 (by omega)) ?_)
 refine WL.op rfl (opW.makeSl (α := Role) (n := xs.length + 3) ((⟨vz 32, false, false⟩ : Role)) (by first | rfl | (rw [enc_vz]; rfl) | (simp only [Account.enc_eq, Account.parts, Role.enc_eq, Role.parts, Instr.enc_eq, Instr.parts, Ask.enc_eq, Ask.parts, Cut.enc_eq, Cut.parts, PairS.enc_eq, PairS.parts, RAsk.enc_eq, RAsk.parts, Header.enc_eq, Header.parts, Lookup.enc_eq, Lookup.parts, Message.enc_eq, Message.parts, Tx.enc_eq, Tx.parts, Budget.enc_eq, Budget.parts, Ready.enc_eq, Ready.parts, Holding.enc_eq, Holding.parts, Outcome.enc_eq, Outcome.parts, Running.enc_eq, Running.parts, StS.enc_eq, StS.parts]; rw [enc_vz]; rfl)) hS rfl rfl (by omega) (by simp only [maxLen]; omega) ?_)
 intro b11 w _ hS
 refine WL.op rfl (opW.assignV (v := (.slice (some ⟨b11, 0, none⟩) (xs.length + 3) (xs.length + 3))) rfl ?_)
 refine WL.nil ?_
 refine thenQ_n (hK2 _ _ ?_)
 refine WC.seq (fun K3 hK3 => ?_)
 refine WC.seq (fun K4 hK4 => ?_)
 refine WC.region ?_
 refine WL.op rfl (opW.assignI rfl ?_)
 refine WL.nil ?_
 refine thenQ_n (hK4 _ _ ?_)
 refine WC.block ?_
 refine WC.loop (fun q f w => ∃ k : Nat, Fits [(0, v), (3, .pointer (some ⟨b3, 0, none⟩)), (5, (.slice (some ⟨b11, 0, none⟩) (xs.length + 3) (xs.length + 3))), (6, .int .i64 (k : Int))] f ∧ St w0 [ownE (.slice (some ⟨b11, 0, none⟩) (xs.length + 3) (xs.length + 3)) 91 (xs.take k ++ List.replicate (xs.length + 3 - k) (⟨vz 32, false, false⟩ : Role)), blkE b3 (Enc.enc mk) 91] w ∧ k ≤ xs.length ∧ q = xs.length - k) (xs.length) ?_ ?_
 ·
  exact ⟨0, ⟨rfl, rfl, rfl, rfl, trivial⟩, hS, Nat.zero_le _, rfl⟩
 ·
  rintro q f w ⟨k, hfit, hS, hk0, hm⟩
  refine WC.fits _ hfit (fun g => ?_)
  clear hfit
  refine WC.seq (fun K5 hK5 => ?_)
  refine WC.seq (fun K6 hK6 => ?_)
  refine WC.region ?_
  refine WL.op rfl (opW.moveI rfl ?_)
  refine WL.op rfl (opW.moveV (v := v) rfl ?_)
  refine WL.op rfl (opW.lenV rfl ((hx.bel hS.old)) ?_)
  refine WL.op rfl (opW.lss rfl rfl ?_)
  refine WL.nil ?_
  refine thenQ_n (hK6 _ _ ?_)
  refine WC.cond _ rfl (fun hc0 => ?_) (fun hc0 => ?_)
  ·
   have hr0 := hc0
   try simp only [sq1,sq2,sq3,sq4,sq5,sq6,sq7,sq8,sq9,sq0] at hc0
   have hkl : k < xs.length := by omega
   have hll : (xs.take k ++ List.replicate (xs.length + 3 - k) (⟨vz 32, false, false⟩ : Role)).length = xs.length + 3 := by simp; omega
   refine WC.skip ?_
   refine thenQ_n (hK5 _ _ ?_)
   refine WC.seq (fun K7 hK7 => ?_)
   refine WC.block ?_
   refine WC.region ?_
   refine WL.op rfl (opW.moveV (v := (.slice (some ⟨b11, 0, none⟩) (xs.length + 3) (xs.length + 3))) rfl ?_)
   refine WL.op rfl (opW.moveI rfl ?_)
   refine WL.op rfl (opW.moveV (v := v) rfl ?_)
   refine WL.op rfl (opW.moveI rfl ?_)
   refine WL.op rfl (opW.idxV rfl ((hx.bel hS.old)) rfl (by omega) ?_)
   refine WL.op rfl (opW.loadV rfl (((hx.bel hS.old).isPt hkl).ldA (Enc.size_eq _)) ?_)
   refine WL.op rfl (opW.idxV rfl (hS.sl (v := (.slice (some ⟨b11, 0, none⟩) (xs.length + 3) (xs.length + 3))) (xs := (xs.take k ++ List.replicate (xs.length + 3 - k) (⟨vz 32, false, false⟩ : Role))) (by repeat constructor)) rfl (by omega) ?_)
   refine WL.op0 (opW.storeOwn (v := (.slice (some ⟨b11, 0, none⟩) (xs.length + 3) (xs.length + 3))) (u := .agg (Enc.enc xs[k])) (xs := (xs.take k ++ List.replicate (xs.length + 3 - k) (⟨vz 32, false, false⟩ : Role))) (i := k) (off := 0) (y' := xs[k]) hS (by repeat constructor) (by omega) (ptrAdd_zero (.slice (some ⟨b11, 0, none⟩) (xs.length + 3) (xs.length + 3)) k (Enc.sz Role)).symm rfl (by first | exact Enc.size_eq (α := Role) xs[k] | rfl) (by first | exact Nat.le_refl _ | decide) (Enc.one (xs[k])) (spl_all (by rw [Enc.size_eq]; first | exact Enc.size_eq (α := Role) xs[k] | rfl)) ?_)
   intro w hS; replace hS := hS _ (by repeat constructor)
   refine WL.nil ?_
   refine blockQ_n ?_
   refine thenQ_n (hK7 _ _ ?_)
   refine WC.region ?_
   refine WL.op rfl (opW.moveI rfl ?_)
   refine WL.op rfl (opW.add rfl rfl (wrap_i64 (by omega)) ?_)
   refine WL.op rfl (opW.assignI rfl ?_)
   refine WL.nil ?_
   refine thenQ_n ?_
   rw [twin_set1 hkl] at hS
   exact ⟨xs.length - (k + 1), by omega, k + 1, ⟨rfl, rfl, rfl, congrArg (Value.int .i64) (by omega), trivial⟩, hS, by omega, rfl⟩
  ·
   have hr0 := hc0
   try simp only [sq1,sq2,sq3,sq4,sq5,sq6,sq7,sq8,sq9,sq0] at hc0
   obtain rfl : k = xs.length := by omega
   rw [twin_mid] at hS
   refine WC.exit ?_
   refine thenQ_e ?_
   refine thenQ_e ?_
   refine blockQ_hit ?_
   refine thenQ_n (hK3 _ _ ?_)
   refine WC.seq (fun K8 hK8 => ?_)
   refine WC.seq (fun K9 hK9 => ?_)
   refine WC.region ?_
   refine WL.op rfl (opW.assignI rfl ?_)
   refine WL.nil ?_
   refine thenQ_n (hK9 _ _ ?_)
   refine WC.block ?_
   refine WC.loop (fun q f w => ∃ k : Nat, Fits [(0, v), (3, .pointer (some ⟨b3, 0, none⟩)), (5, (.slice (some ⟨b11, 0, none⟩) (xs.length + 3) (xs.length + 3))), (7, .int .i64 (k : Int))] f ∧ St w0 [ownE (.slice (some ⟨b11, 0, none⟩) (xs.length + 3) (xs.length + 3)) 91 (xs ++ (List.replicate k mk ++ List.replicate (3 - k) (⟨vz 32, false, false⟩ : Role))), blkE b3 (Enc.enc mk) 91] w ∧ k ≤ 3 ∧ q = 3 - k) (3) ?_ ?_
   ·
    exact ⟨0, ⟨rfl, rfl, rfl, rfl, trivial⟩, hS, Nat.zero_le _, rfl⟩
   ·
    rintro q f w ⟨k, hfit, hS, hk0, hm⟩
    refine WC.fits _ hfit (fun g => ?_)
    clear hfit
    refine WC.seq (fun K10 hK10 => ?_)
    refine WC.seq (fun K11 hK11 => ?_)
    refine WC.region ?_
    refine WL.op rfl (opW.moveI rfl ?_)
    refine WL.op rfl (opW.lss rfl rfl ?_)
    refine WL.nil ?_
    refine thenQ_n (hK11 _ _ ?_)
    refine WC.cond _ rfl (fun hc1 => ?_) (fun hc1 => ?_)
    ·
     have hr1 := hc1
     try simp only [sq1,sq2,sq3,sq4,sq5,sq6,sq7,sq8,sq9,sq0] at hc1
     have hkl : k < 3 := by omega
     have hll : (xs ++ (List.replicate k mk ++ List.replicate (3 - k) (⟨vz 32, false, false⟩ : Role))).length = xs.length + 3 := by simp; omega
     refine WC.skip ?_
     refine thenQ_n (hK10 _ _ ?_)
     refine WC.seq (fun K12 hK12 => ?_)
     refine WC.block ?_
     refine WC.region ?_
     refine WL.op rfl (opW.moveV (v := (.slice (some ⟨b11, 0, none⟩) (xs.length + 3) (xs.length + 3))) rfl ?_)
     refine WL.op rfl (opW.moveV (v := v) rfl ?_)
     refine WL.op rfl (opW.lenV rfl ((hx.bel hS.old)) ?_)
     refine WL.op rfl (opW.moveI rfl ?_)
     refine WL.op rfl (opW.add rfl rfl (wrap_i64 (by omega)) ?_)
     refine WL.op rfl (opW.loadV rfl (hS.ldA (cs := Enc.enc mk) (by repeat constructor) (Enc.size_eq _)) ?_)
     refine WL.op rfl (opW.idxV rfl (hS.sl (v := (.slice (some ⟨b11, 0, none⟩) (xs.length + 3) (xs.length + 3))) (xs := (xs ++ (List.replicate k mk ++ List.replicate (3 - k) (⟨vz 32, false, false⟩ : Role)))) (by repeat constructor)) rfl (by omega) ?_)
     refine WL.op0 (opW.storeOwn (v := (.slice (some ⟨b11, 0, none⟩) (xs.length + 3) (xs.length + 3))) (u := .agg (Enc.enc mk)) (xs := (xs ++ (List.replicate k mk ++ List.replicate (3 - k) (⟨vz 32, false, false⟩ : Role)))) (i := xs.length + k) (off := 0) (y' := mk) hS (by repeat constructor) (by omega) (ptrAdd_zero (.slice (some ⟨b11, 0, none⟩) (xs.length + 3) (xs.length + 3)) (xs.length + k) (Enc.sz Role)).symm rfl (by first | exact Enc.size_eq (α := Role) mk | rfl) (by first | exact Nat.le_refl _ | decide) (Enc.one mk) (spl_all (by rw [Enc.size_eq]; first | exact Enc.size_eq (α := Role) mk | rfl)) ?_)
     intro w hS; replace hS := hS _ (by repeat constructor)
     refine WL.nil ?_
     refine blockQ_n ?_
     refine thenQ_n (hK12 _ _ ?_)
     refine WC.region ?_
     refine WL.op rfl (opW.moveI rfl ?_)
     refine WL.op rfl (opW.add rfl rfl (wrap_i64 (by omega)) ?_)
     refine WL.op rfl (opW.assignI rfl ?_)
     refine WL.nil ?_
     refine thenQ_n ?_
     rw [twin_set2 hkl] at hS
     exact ⟨3 - (k + 1), by omega, k + 1, ⟨rfl, rfl, rfl, congrArg (Value.int .i64) (by omega), trivial⟩, hS, by omega, rfl⟩
    ·
     have hr1 := hc1
     try simp only [sq1,sq2,sq3,sq4,sq5,sq6,sq7,sq8,sq9,sq0] at hc1
     obtain rfl : k = 3 := by omega
     have hS3 : St w0 [ownE (.slice (some ⟨b11, 0, none⟩) (xs.length + 3) (xs.length + 3)) 91 (xs ++ [mk, mk, mk]), blkE b3 (Enc.enc mk) 91] w := hS
     clear hS
     have hS := hS3
     refine WC.exit ?_
     refine thenQ_e ?_
     refine thenQ_e ?_
     refine blockQ_hit ?_
     refine thenQ_n (hK8 _ _ ?_)
     refine WC.seq (fun K13 hK13 => ?_)
     refine WC.region ?_
     refine WL.op rfl (opW.moveV (v := (.slice (some ⟨b11, 0, none⟩) (xs.length + 3) (xs.length + 3))) rfl ?_)
     refine WL.op rfl (opW.moveV (v := v) rfl ?_)
     refine WL.op rfl (opW.lenV rfl ((hx.bel hS.old)) ?_)
     refine WL.op rfl (opW.cutS (l := 0) (h' := xs.length) (m := xs.length + 3) (hS.sl (v := (.slice (some ⟨b11, 0, none⟩) (xs.length + 3) (xs.length + 3))) (xs := xs ++ [mk, mk, mk]) (by repeat constructor)) ⟨rfl, Nat.le_refl _⟩ ⟨⟨_, rfl⟩, by omega⟩ ⟨rfl, Nat.zero_le _⟩ ?_)
     refine WL.op rfl (opW.assignV (v := (cutV (.slice (some ⟨b11, 0, none⟩) (xs.length + 3) (xs.length + 3)) 0 xs.length (xs.length + 3) (Enc.sz Role))) rfl ?_)
     refine WL.nil ?_
     refine thenQ_n (hK13 _ _ ?_)
     refine WC.ret ?_
     refine bodyQ_ret (.tmpV (v := cutV (.slice (some ⟨b11, 0, none⟩) (xs.length + 3) (xs.length + 3)) 0 xs.length (xs.length + 3) (Enc.sz Role)) rfl .nil) ?_
     exact ⟨(.slice (some ⟨b11, 0, none⟩) (xs.length + 3) (xs.length + 3)), rfl, rfl, hS.own_new (by repeat constructor), hS.old⟩

theorem left_Role (w0 : World) (fv u : Value) (xs : List Role) (mk : Role) (hcf : capV fv = xs.length + 3) (hf : SlR w0 fv (xs ++ [mk, mk, mk])) (hu : SlR w0 u xs) : Ret Tryz.prog 67 #[(cutV fv 0 xs.length (xs.length + 3) (Enc.sz Role)), u, .agg (Enc.enc mk)] w0 (fun r w' => r = .bool true ∧ Bel w0 w') := by
 refine Ret.enter (args := [(cutV fv 0 xs.length (xs.length + 3) (Enc.sz Role)), u, .agg (Enc.enc mk)]) Tryz.func67 rfl Tryz.ntmps67 Tryz.results67 rfl ?_
 have hS := St.start w0
 have hlx : (xs ++ [mk, mk, mk]).length = xs.length + 3 := by simp
 have ht : SlR w0 (cutV fv 0 xs.length (xs.length + 3) (Enc.sz Role)) xs := by
  have := hf.head (m := xs.length + 3) (by omega) (by omega)
  exact this
 have hct : capV (cutV fv 0 xs.length (xs.length + 3) (Enc.sz Role)) = xs.length + 3 := by obtain ⟨a, c, h⟩ := hf.eq; rw [h]; simp [cutV, capV]
 have hr : SlR w0 (cutV (cutV fv 0 xs.length (xs.length + 3) (Enc.sz Role)) 0 (xs.length + 3) (xs.length + 3) (Enc.sz Role)) (xs ++ [mk, mk, mk]) := by
  have := hf.front (k := xs.length + 3) (m := xs.length + 3) (by omega) (Nat.le_refl _) (by omega)
  rw [List.take_of_length_le (by omega)] at this
  rw [cutV_cut0]
  exact this
 have hle := hf.le
 rw [hlx] at hle
 simp only [maxLen] at hle
 refine WC.seq (fun K1 hK1 => ?_)
 refine WC.region ?_
 refine WL.op rfl (opW.boxA hS rfl ?_)
 intro b5 w _ hS
 refine WL.op rfl (opW.assignB rfl ?_)
 refine WL.nil ?_
 refine thenQ_n (hK1 _ _ ?_)
 refine WC.seq (fun K2 hK2 => ?_)
 refine WC.seq (fun K3 hK3 => ?_)
 refine WC.region ?_
 refine WL.op rfl (opW.moveV (v := (cutV fv 0 xs.length (xs.length + 3) (Enc.sz Role))) rfl ?_)
 refine WL.op rfl (opW.moveV (v := u) rfl ?_)
 refine WL.op rfl (opW.call (same_r _ _ _ xs xs (ht.bel hS.old) (hu.bel hS.old)) rfl ?_)
 rintro _ w ⟨rfl, hw⟩; replace hS := hS.bel hw
 rw [decide_eq_true (rfl : xs = xs)]
 refine WL.op rfl (opW.not rfl ?_)
 refine WL.op rfl (opW.moveB rfl ?_)
 refine WL.gT 13 rfl rfl rfl (WL.op rfl (opW.moveV (v := (cutV fv 0 xs.length (xs.length + 3) (Enc.sz Role))) rfl ?_))
 refine WL.gT 13 rfl rfl rfl (WL.op rfl (opW.cap (v := (cutV fv 0 xs.length (xs.length + 3) (Enc.sz Role))) rfl (ht.bel hS.old) ?_))
 refine WL.gT 13 rfl rfl rfl (WL.op rfl (opW.moveV (v := u) rfl ?_))
 refine WL.gT 13 rfl rfl rfl (WL.op rfl (opW.lenV rfl ((hu.bel hS.old)) ?_))
 refine WL.gT 13 rfl rfl rfl (WL.op rfl (opW.add rfl rfl (wrap_i64 (by omega)) ?_))
 refine WL.gT 13 rfl rfl rfl (WL.op rfl (opW.lss rfl rfl ?_))
 refine WL.op rfl (opW.pickT rfl rfl ?_)
 refine WL.nil ?_
 refine thenQ_n (hK3 _ _ ?_)
 refine WC.cond _ rfl (fun hc0 => ?_) (fun hc0 => ?_)
 ·
  have hr0 := hc0
  try simp only [sq1,sq2,sq3,sq4,sq5,sq6,sq7,sq8,sq9,sq0] at hc0
  simp [hct] at hr0
 ·
  have hr0 := hc0
  try simp only [sq1,sq2,sq3,sq4,sq5,sq6,sq7,sq8,sq9,sq0] at hc0
  refine WC.skip ?_
  refine thenQ_n (hK2 _ _ ?_)
  refine WC.seq (fun K4 hK4 => ?_)
  refine WC.region ?_
  refine WL.op rfl (opW.moveV (v := (cutV fv 0 xs.length (xs.length + 3) (Enc.sz Role))) rfl ?_)
  refine WL.op rfl (opW.moveV (v := u) rfl ?_)
  refine WL.op rfl (opW.lenV rfl ((hu.bel hS.old)) ?_)
  refine WL.op rfl (opW.add rfl rfl (wrap_i64 (by omega)) ?_)
  refine WL.op rfl (opW.cutS (l := 0) (h' := xs.length + 3) (m := xs.length + 3) (ht.bel hS.old) ⟨hct.symm, Nat.le_of_eq hct.symm⟩ ⟨⟨_, rfl⟩, Nat.le_refl _⟩ ⟨rfl, Nat.zero_le _⟩ ?_)
  refine WL.op rfl (opW.assignV (v := (cutV (cutV fv 0 xs.length (xs.length + 3) (Enc.sz Role)) 0 (xs.length + 3) (xs.length + 3) (Enc.sz Role))) rfl ?_)
  refine WL.nil ?_
  refine thenQ_n (hK4 _ _ ?_)
  refine WC.seq (fun K5 hK5 => ?_)
  refine WC.seq (fun K6 hK6 => ?_)
  refine WC.region ?_
  refine WL.op rfl (opW.assignI rfl ?_)
  refine WL.nil ?_
  refine thenQ_n (hK6 _ _ ?_)
  refine WC.block ?_
  refine WC.loop (fun q f w => ∃ k : Nat, Fits [(1, u), (5, .pointer (some ⟨b5, 0, none⟩)), (7, (cutV (cutV fv 0 xs.length (xs.length + 3) (Enc.sz Role)) 0 (xs.length + 3) (xs.length + 3) (Enc.sz Role))), (8, .int .i64 (k : Int))] f ∧ St w0 [blkE b5 (Enc.enc mk) 91] w ∧ k ≤ 3 ∧ q = 3 - k) (3) ?_ ?_
  ·
   exact ⟨0, ⟨rfl, rfl, rfl, rfl, trivial⟩, hS, Nat.zero_le _, rfl⟩
  ·
   rintro q f w ⟨k, hfit, hS, hk0, hm⟩
   refine WC.fits _ hfit (fun g => ?_)
   clear hfit
   refine WC.seq (fun K7 hK7 => ?_)
   refine WC.seq (fun K8 hK8 => ?_)
   refine WC.region ?_
   refine WL.op rfl (opW.moveI rfl ?_)
   refine WL.op rfl (opW.lss rfl rfl ?_)
   refine WL.nil ?_
   refine thenQ_n (hK8 _ _ ?_)
   refine WC.cond _ rfl (fun hc1 => ?_) (fun hc1 => ?_)
   ·
    have hr1 := hc1
    try simp only [sq1,sq2,sq3,sq4,sq5,sq6,sq7,sq8,sq9,sq0] at hc1
    have hkl : k < 3 := by omega
    have hkx : xs.length + k < (xs ++ [mk, mk, mk]).length := by omega
    refine WC.skip ?_
    refine thenQ_n (hK7 _ _ ?_)
    refine WC.seq (fun K9 hK9 => ?_)
    refine WC.block ?_
    refine WC.seq (fun K10 hK10 => ?_)
    refine WC.draw 9 (.look 0 (.look 1 (.look 2 (.look 3 (.look 4 (.look 5 (.look 6 (.look 7 (.look 8 .nil))))))))) (by kernel_rfl) (fun _ _ _ h => h) (fun w1 hw1 => ?_)
    replace hS := hS.bel hw1
    have hS1 := hS
    have hT := St.start w1
    refine ML.look rfl rfl rfl (fun w hw => (by have hS := hS1.bel hw; exact opW.moveV (v := (cutV (cutV fv 0 xs.length (xs.length + 3) (Enc.sz Role)) 0 (xs.length + 3) (xs.length + 3) (Enc.sz Role))) rfl ⟨rfl, rfl⟩)) ?_
    refine ML.look rfl rfl rfl (fun w hw => (by have hS := hS1.bel hw; exact opW.moveV (v := u) rfl ⟨rfl, rfl⟩)) ?_
    refine ML.look rfl rfl rfl (fun w hw => (by have hS := hS1.bel hw; exact opW.lenV rfl ((hu.bel hS.old)) ⟨rfl, rfl⟩)) ?_
    refine ML.look rfl rfl rfl (fun w hw => (by have hS := hS1.bel hw; exact opW.moveI rfl ⟨rfl, rfl⟩)) ?_
    refine ML.look rfl rfl rfl (fun w hw => (by have hS := hS1.bel hw; exact opW.add rfl rfl (wrap_i64 (by omega)) ⟨rfl, rfl⟩)) ?_
    refine ML.look rfl rfl rfl (fun w hw => (by have hS := hS1.bel hw; exact opW.idxV rfl ((hr.bel hS.old)) rfl (by omega) ⟨rfl, rfl⟩)) ?_
    refine ML.look rfl rfl rfl (fun w hw => (by have hS := hS1.bel hw; exact opW.loadV rfl (((hr.bel hS.old).isPt (i := xs.length + k) hkx).ldA (Enc.size_eq _)) ⟨rfl, rfl⟩)) ?_
    refine ML.look rfl rfl rfl (fun w hw => (by have hS := hS1.bel hw; exact opW.loadV rfl (hS.ldA (cs := Enc.enc mk) (by repeat constructor) (Enc.size_eq _)) ⟨rfl, rfl⟩)) ?_
    refine ML.look rfl rfl rfl (fun w hw => (by have hS := hS1.bel hw; exact opW.neqE rfl rfl ⟨rfl, rfl⟩)) ?_
    refine ML.nil ?_
    refine thenQ_n (hK10 _ _ ?_)
    refine WC.cond _ rfl (fun hc2 => ?_) (fun hc2 => ?_)
    ·
     have hr2 := hc2
     try simp only [sq1,sq2,sq3,sq4,sq5,sq6,sq7,sq8,sq9,sq0] at hc2
     have hg : (xs ++ [mk, mk, mk])[xs.length + k] = mk := by
      rw [List.getElem_append_right (by omega)]
      rcases (by omega : k = 0 ∨ k = 1 ∨ k = 2) with rfl | rfl | rfl <;> simp
     rw [hg] at hr2
     simp at hr2
    ·
     have hr2 := hc2
     try simp only [sq1,sq2,sq3,sq4,sq5,sq6,sq7,sq8,sq9,sq0] at hc2
     refine WC.skip ?_
     refine blockQ_n ?_
     refine thenQ_n (hK9 _ _ ?_)
     refine WC.region ?_
     refine WL.op rfl (opW.moveI rfl ?_)
     refine WL.op rfl (opW.add rfl rfl (wrap_i64 (by omega)) ?_)
     refine WL.op rfl (opW.assignI rfl ?_)
     refine WL.nil ?_
     refine thenQ_n ?_
     exact ⟨3 - (k + 1), by omega, k + 1, ⟨rfl, rfl, rfl, congrArg (Value.int .i64) (by omega), trivial⟩, hS, by omega, rfl⟩
   ·
    have hr1 := hc1
    try simp only [sq1,sq2,sq3,sq4,sq5,sq6,sq7,sq8,sq9,sq0] at hc1
    refine WC.exit ?_
    refine thenQ_e ?_
    refine thenQ_e ?_
    refine blockQ_hit ?_
    refine thenQ_n (hK5 _ _ ?_)
    refine WC.seq (fun K11 hK11 => ?_)
    refine WC.region ?_
    refine WL.op rfl (opW.assignB rfl ?_)
    refine WL.nil ?_
    refine thenQ_n (hK11 _ _ ?_)
    refine WC.ret ?_
    refine bodyQ_ret (.tmpB rfl .nil) ?_
    exact ⟨rfl, hS.old⟩

@[irreducible] def markR : Role := ⟨markK, true, false⟩
theorem markR_eq : markR = ⟨markK, true, false⟩ := by unfold markR; rfl

theorem markRole_ok (w0 : World) : Ret Tryz.prog 51 #[] w0 (fun u w' => u = .agg (Enc.enc markR) ∧ Bel w0 w') := by
 refine Ret.enter (args := []) Tryz.func51 rfl Tryz.ntmps51 Tryz.results51 rfl ?_
 have hS := St.start w0
 refine WC.seq (fun K1 hK1 => ?_)
 refine WC.region ?_
 refine WL.op rfl (opW.allocA hS ?_)
 intro b0 w _ hS
 refine WL.nil ?_
 refine thenQ_n (hK1 _ _ ?_)
 refine WC.seq (fun K2 hK2 => ?_)
 refine WC.region ?_
 refine WL.op rfl (opW.call (markKey_ok _) rfl ?_)
 rintro _ w ⟨rfl, hw⟩; replace hS := hS.bel hw
 refine WL.op rfl (opW.buildE (r := ((⟨markK, true, false⟩ : Role) : Role)) (ps := Role.parts ((⟨markK, true, false⟩ : Role) : Role)) (Role.enc_eq _) (by first | (simp only [sysK, az, markK, markS, enc_vset, enc_vz, Account.enc_eq, Account.parts, Role.enc_eq, Role.parts, Instr.enc_eq, Instr.parts, Ask.enc_eq, Ask.parts, Cut.enc_eq, Cut.parts, PairS.enc_eq, PairS.parts, RAsk.enc_eq, RAsk.parts, Header.enc_eq, Header.parts, Lookup.enc_eq, Lookup.parts, Message.enc_eq, Message.parts, Tx.enc_eq, Tx.parts, Budget.enc_eq, Budget.parts, Ready.enc_eq, Ready.parts, Holding.enc_eq, Holding.parts, Outcome.enc_eq, Outcome.parts, Running.enc_eq, Running.parts, StS.enc_eq, StS.parts]; rfl) | rfl) (by (repeat' (first | exact trivial | refine And.intro ?_ ?_)) <;> first | rfl | exact Enc.size_eq _ | (simp; done)) ?_)
 refine WL.op0 (opW.storeE hS rfl rfl (by repeat constructor) (by first | rfl | exact Enc.size_eq _) ?_)
 intro w hS; replace hS := hS _ (by repeat constructor)
 refine WL.nil ?_
 refine thenQ_n (hK2 _ _ ?_)
 refine WC.ret ?_
 refine bodyQ_ret (.cell (by first | exact hS.ldA (by repeat constructor) (by first | rfl | exact Enc.size_eq _) | exact hS.ld1 (by repeat constructor) rfl) .nil) ?_
 rw [markR_eq]
 exact ⟨rfl, hS.old⟩

theorem twinRoles_ok (w0 : World) (v : Value) (xs : List Role) (hx : SlR w0 v xs) (hl : xs.length ≤ 100000) : Ret Tryz.prog 21 #[v] w0 (fun u w' => ∃ fv, u = cutV fv 0 xs.length (xs.length + 3) (Enc.sz Role) ∧ capV fv = xs.length + 3 ∧ New w0 w' fv 91 (xs ++ [markR, markR, markR]) ∧ Bel w0 w') := by
 refine Ret.enter (args := [v]) Tryz.func21 rfl Tryz.ntmps21 Tryz.results21 rfl ?_
 have hS := St.start w0
 refine WC.seq (fun K1 hK1 => ?_)
 refine WC.region ?_
 refine WL.op rfl (opW.assignV (v := .slice none 0 0) rfl ?_)
 refine WL.nil ?_
 refine thenQ_n (hK1 _ _ ?_)
 refine WC.seq (fun K2 hK2 => ?_)
 refine WC.region ?_
 refine WL.op rfl (opW.moveV (v := v) rfl ?_)
 refine WL.op rfl (opW.call (markRole_ok _) rfl ?_)
 rintro _ w ⟨rfl, hw⟩; replace hS := hS.bel hw
 refine WL.op rfl (opW.call (twin_Role _ v xs markR (hx.bel hS.old) hl) rfl ?_)
 rintro _ w ⟨fv, rfl, hc, hn, hw⟩
 replace hS := hS.newOwn hw hn.1 hn.2
 refine WL.op rfl (opW.assignV (v := (cutV fv 0 xs.length (xs.length + 3) (Enc.sz Role))) rfl ?_)
 refine WL.nil ?_
 refine thenQ_n (hK2 _ _ ?_)
 refine WC.ret ?_
 refine bodyQ_ret (.tmpV (v := (cutV fv 0 xs.length (xs.length + 3) (Enc.sz Role))) rfl .nil) ?_
 exact ⟨fv, rfl, hc, hS.own_new (by repeat constructor), hS.old⟩

theorem leftRoles_ok (w0 : World) (fv u : Value) (xs : List Role) (hcf : capV fv = xs.length + 3) (hf : SlR w0 fv (xs ++ [markR, markR, markR])) (hu : SlR w0 u xs) : Ret Tryz.prog 38 #[(cutV fv 0 xs.length (xs.length + 3) (Enc.sz Role)), u] w0 (fun r w' => r = .bool true ∧ Bel w0 w') := by
 refine Ret.enter (args := [(cutV fv 0 xs.length (xs.length + 3) (Enc.sz Role)), u]) Tryz.func38 rfl Tryz.ntmps38 Tryz.results38 rfl ?_
 have hS := St.start w0
 refine WC.seq (fun K1 hK1 => ?_)
 refine WC.region ?_
 refine WL.op rfl (opW.assignB rfl ?_)
 refine WL.nil ?_
 refine thenQ_n (hK1 _ _ ?_)
 refine WC.seq (fun K2 hK2 => ?_)
 refine WC.region ?_
 refine WL.op rfl (opW.moveV (v := (cutV fv 0 xs.length (xs.length + 3) (Enc.sz Role))) rfl ?_)
 refine WL.op rfl (opW.moveV (v := u) rfl ?_)
 refine WL.op rfl (opW.call (markRole_ok _) rfl ?_)
 rintro _ w ⟨rfl, hw⟩; replace hS := hS.bel hw
 refine WL.op rfl (opW.call (left_Role _ fv u xs markR hcf (hf.bel hS.old) (hu.bel hS.old)) rfl ?_)
 rintro _ w ⟨rfl, hw⟩; replace hS := hS.bel hw
 refine WL.op rfl (opW.assignB rfl ?_)
 refine WL.nil ?_
 refine thenQ_n (hK2 _ _ ?_)
 refine WC.ret ?_
 refine bodyQ_ret (.tmpB rfl .nil) ?_
 exact ⟨rfl, hS.old⟩

end Go.Fer
