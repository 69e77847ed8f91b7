/- TrackersVoid -/
import Derived.Test.YtinclpfoiljioaaC
set_option linter.all false
namespace Go.Fer
open Go Go.Proofs Go.RowKit

def VoidT (w : World) (v : Value) : Prop := v = .pointer none ∨ ∃ p, v = .pointer (some ⟨p, 0, none⟩) ∧ Pt w v (Enc.enc (TrS.mk ⟨0, 0, 0⟩ 0 0 none))
theorem VoidT.bel {w w' : World} {v : Value} (h : VoidT w v) (hb : Bel w w') : VoidT w' v := by
  rcases h with h | ⟨p, h1, h2⟩
  · exact .inl h
  · exact .inr ⟨p, h1, h2.bel hb⟩

theorem would_none (w0 : World) (cost : Nat) (kv : Value) (space : Nat) : Ret Try.prog 12 #[.pointer none, .int .u64 (cost : Int), kv, .int .u64 (space : Int)] w0 (fun u w' => u = .int .i64 2 ∧ Bel w0 w') := by
  refine Ret.enter (args := [.pointer none, .int .u64 (cost : Int), kv, .int .u64 (space : Int)]) Try.func12 rfl Try.ntmps12 Try.results12 rfl ?_
  have hS := St.start w0
  refine WC.seq (fun K1 hK1 => ?_)
  refine WC.region ?_
  refine WL.op rfl (opW.assignI rfl ?_)
  refine WL.nil ?_
  refine thenQ_n (hK1 _ _ ?_)
  refine WC.seq (fun K2 hK2 => ?_)
  refine WC.seq (fun K3 hK3 => ?_)
  refine WC.region ?_
  refine WL.op rfl (opW.moveV (v := .pointer none) rfl ?_)
  refine WL.op rfl (opW.eqlP rfl rfl ?_)
  refine WL.op rfl (opW.moveB rfl ?_)
  refine WL.gF 13 rfl rfl rfl rfl ?_
  refine WL.gF 13 rfl rfl rfl rfl ?_
  refine WL.gF 13 rfl rfl rfl rfl ?_
  refine WL.gF 13 rfl rfl rfl rfl ?_
  refine WL.gF 13 rfl rfl rfl rfl ?_
  refine WL.op rfl (opW.pickT rfl rfl ?_)
  refine WL.nil ?_
  refine thenQ_n (hK3 _ _ ?_)
  refine WC.cond _ rfl (fun hc0 => ?_) (fun hc0 => ?_)
  ·
    have hr0 := hc0
    try simp only [decide_eq_true_eq, decide_eq_false_iff_not, Bool.and_eq_true, Bool.or_eq_true, Bool.and_eq_false_iff, Bool.or_eq_false_iff, Bool.not_eq_true', Bool.not_eq_false', Int.not_lt, Int.not_le] at hc0
    refine WC.seq (fun K4 hK4 => ?_)
    refine WC.region ?_
    refine WL.op rfl (opW.assignI rfl ?_)
    refine WL.nil ?_
    refine thenQ_n (hK4 _ _ ?_)
    refine WC.ret ?_
    refine thenQ_r ?_
    refine bodyQ_ret (.tmpI rfl .nil) ?_
    exact ⟨rfl, hS.old⟩
  ·
    have hr0 := hc0
    try simp only [decide_eq_true_eq, decide_eq_false_iff_not, Bool.and_eq_true, Bool.or_eq_true, Bool.and_eq_false_iff, Bool.or_eq_false_iff, Bool.not_eq_true', Bool.not_eq_false', Int.not_lt, Int.not_le] at hc0
    simp at hr0

theorem would_zero (w0 : World) (p : Nat) (cost : Nat) (kv : Value) (space : Nat) (hp : Pt w0 (.pointer (some ⟨p, 0, none⟩)) (Enc.enc (TrS.mk ⟨0, 0, 0⟩ 0 0 none))) : Ret Try.prog 12 #[.pointer (some ⟨p, 0, none⟩), .int .u64 (cost : Int), kv, .int .u64 (space : Int)] w0 (fun u w' => u = .int .i64 2 ∧ Bel w0 w') := by
  refine Ret.enter (args := [.pointer (some ⟨p, 0, none⟩), .int .u64 (cost : Int), kv, .int .u64 (space : Int)]) Try.func12 rfl Try.ntmps12 Try.results12 rfl ?_
  have hS := St.start w0
  refine WC.seq (fun K1 hK1 => ?_)
  refine WC.region ?_
  refine WL.op rfl (opW.assignI rfl ?_)
  refine WL.nil ?_
  refine thenQ_n (hK1 _ _ ?_)
  refine WC.seq (fun K2 hK2 => ?_)
  refine WC.seq (fun K3 hK3 => ?_)
  refine WC.region ?_
  refine WL.op rfl (opW.moveV (v := .pointer (some ⟨p, 0, none⟩)) rfl ?_)
  refine WL.op rfl (opW.eqlP rfl rfl ?_)
  refine WL.op rfl (opW.moveB rfl ?_)
  refine WL.gT 13 rfl rfl rfl (WL.op rfl (opW.moveV (v := .pointer (some ⟨p, 0, none⟩)) rfl ?_))
  refine WL.gT 13 rfl rfl rfl (WL.op rfl (opW.nilCheckB rfl ?_))
  refine WL.gT 13 rfl rfl rfl (WL.op rfl (opW.fieldAddrB rfl ?_))
  refine WL.gT 13 rfl rfl rfl (WL.op rfl (opW.loadV rfl ((hp.bel hS.old).at1 (TrS.at_of _)) ?_))
  refine WL.gT 13 rfl rfl rfl (WL.op rfl (opW.eqlM rfl rfl ?_))
  refine WL.op rfl (opW.pickT rfl rfl ?_)
  refine WL.nil ?_
  refine thenQ_n (hK3 _ _ ?_)
  refine WC.cond _ rfl (fun hc0 => ?_) (fun hc0 => ?_)
  ·
    have hr0 := hc0
    try simp only [decide_eq_true_eq, decide_eq_false_iff_not, Bool.and_eq_true, Bool.or_eq_true, Bool.and_eq_false_iff, Bool.or_eq_false_iff, Bool.not_eq_true', Bool.not_eq_false', Int.not_lt, Int.not_le] at hc0
    refine WC.seq (fun K4 hK4 => ?_)
    refine WC.region ?_
    refine WL.op rfl (opW.assignI rfl ?_)
    refine WL.nil ?_
    refine thenQ_n (hK4 _ _ ?_)
    refine WC.ret ?_
    refine thenQ_r ?_
    refine bodyQ_ret (.tmpI rfl .nil) ?_
    exact ⟨rfl, hS.old⟩
  ·
    have hr0 := hc0
    try simp only [decide_eq_true_eq, decide_eq_false_iff_not, Bool.and_eq_true, Bool.or_eq_true, Bool.and_eq_false_iff, Bool.or_eq_false_iff, Bool.not_eq_true', Bool.not_eq_false', Int.not_lt, Int.not_le] at hc0
    simp at hr0

theorem would_void (w0 : World) (v : Value) (cost : Nat) (kv : Value) (space : Nat) (h : VoidT w0 v) : Ret Try.prog 12 #[v, .int .u64 (cost : Int), kv, .int .u64 (space : Int)] w0 (fun u w' => u = .int .i64 2 ∧ Bel w0 w') := by
  rcases h with rfl | ⟨p, rfl, hp⟩
  · exact would_none w0 cost kv space
  · exact would_zero w0 p cost kv space hp

theorem add_void (w0 : World) (v : Value) (cost : Nat) (kv : Value) (space : Nat) (hv : VoidT w0 v) : Ret Try.prog 14 #[v, .int .u64 (cost : Int), kv, .int .u64 (space : Int)] w0 (fun u w' => u = .int .i64 2 ∧ Bel w0 w') := by
  refine Ret.enter (args := [v, .int .u64 (cost : Int), kv, .int .u64 (space : Int)]) Try.func14 rfl Try.ntmps14 Try.results14 rfl ?_
  have hS := St.start w0
  refine WC.seq (fun K1 hK1 => ?_)
  refine WC.region ?_
  refine WL.op rfl (opW.assignI rfl ?_)
  refine WL.nil ?_
  refine thenQ_n (hK1 _ _ ?_)
  refine WC.seq (fun K2 hK2 => ?_)
  refine WC.seq (fun K3 hK3 => ?_)
  refine WC.region ?_
  refine WL.op rfl (opW.moveV (v := v) rfl ?_)
  refine WL.op rfl (opW.moveI rfl ?_)
  refine WL.op rfl (opW.moveV (v := kv) rfl ?_)
  refine WL.op rfl (opW.moveI rfl ?_)
  refine WL.op rfl (opW.call (would_void _ v cost kv space (hv.bel hS.old)) rfl ?_)
  rintro _ w ⟨rfl, hw⟩; replace hS := hS.bel hw
  refine WL.op rfl (opW.assignI rfl ?_)
  refine WL.nil ?_
  refine thenQ_n (hK3 _ _ ?_)
  refine WC.seq (fun K4 hK4 => ?_)
  refine WC.region ?_
  refine WL.op rfl (opW.moveI rfl ?_)
  refine WL.op rfl (opW.neq rfl rfl ?_)
  refine WL.nil ?_
  refine thenQ_n (hK4 _ _ ?_)
  refine WC.cond _ rfl (fun hc0 => ?_) (fun hc0 => ?_)
  ·
    have hr0 := hc0
    try simp only [decide_eq_true_eq, decide_eq_false_iff_not, Bool.and_eq_true, Bool.or_eq_true, Bool.and_eq_false_iff, Bool.or_eq_false_iff, Bool.not_eq_true', Bool.not_eq_false', Int.not_lt, Int.not_le] at hc0
    refine WC.seq (fun K5 hK5 => ?_)
    refine WC.region ?_
    refine WL.op rfl (opW.moveI rfl ?_)
    refine WL.op rfl (opW.assignI rfl ?_)
    refine WL.nil ?_
    refine thenQ_n (hK5 _ _ ?_)
    refine WC.ret ?_
    refine thenQ_r ?_
    refine bodyQ_ret (.tmpI rfl .nil) ?_
    exact ⟨rfl, hS.old⟩
  ·
    have hr0 := hc0
    try simp only [decide_eq_true_eq, decide_eq_false_iff_not, Bool.and_eq_true, Bool.or_eq_true, Bool.and_eq_false_iff, Bool.or_eq_false_iff, Bool.not_eq_true', Bool.not_eq_false', Int.not_lt, Int.not_le] at hc0
    simp at hr0

theorem block_none (w0 : World)  : Ret Try.prog 16 #[.pointer none] w0 (fun u w' => u = .int .u64 0 ∧ Bel w0 w') := by
  refine Ret.enter (args := [.pointer none]) Try.func16 rfl Try.ntmps16 Try.results16 rfl ?_
  have hS := St.start w0
  refine WC.seq (fun K1 hK1 => ?_)
  refine WC.region ?_
  refine WL.op rfl (opW.assignI rfl ?_)
  refine WL.nil ?_
  refine thenQ_n (hK1 _ _ ?_)
  refine WC.seq (fun K2 hK2 => ?_)
  refine WC.seq (fun K3 hK3 => ?_)
  refine WC.region ?_
  refine WL.op rfl (opW.moveV (v := .pointer none) rfl ?_)
  refine WL.op rfl (opW.eqlP rfl rfl ?_)
  refine WL.nil ?_
  refine thenQ_n (hK3 _ _ ?_)
  refine WC.cond _ rfl (fun hc0 => ?_) (fun hc0 => ?_)
  ·
    have hr0 := hc0
    try simp only [decide_eq_true_eq, decide_eq_false_iff_not, Bool.and_eq_true, Bool.or_eq_true, Bool.and_eq_false_iff, Bool.or_eq_false_iff, Bool.not_eq_true', Bool.not_eq_false', Int.not_lt, Int.not_le] at hc0
    refine WC.seq (fun K4 hK4 => ?_)
    refine WC.region ?_
    refine WL.op rfl (opW.assignI rfl ?_)
    refine WL.nil ?_
    refine thenQ_n (hK4 _ _ ?_)
    refine WC.ret ?_
    refine thenQ_r ?_
    refine bodyQ_ret (.tmpI rfl .nil) ?_
    exact ⟨rfl, hS.old⟩
  ·
    have hr0 := hc0
    try simp only [decide_eq_true_eq, decide_eq_false_iff_not, Bool.and_eq_true, Bool.or_eq_true, Bool.and_eq_false_iff, Bool.or_eq_false_iff, Bool.not_eq_true', Bool.not_eq_false', Int.not_lt, Int.not_le] at hc0
    simp at hr0

theorem block_zero (w0 : World) (p : Nat)  (hp : Pt w0 (.pointer (some ⟨p, 0, none⟩)) (Enc.enc (TrS.mk ⟨0, 0, 0⟩ 0 0 none))) : Ret Try.prog 16 #[.pointer (some ⟨p, 0, none⟩)] w0 (fun u w' => u = .int .u64 0 ∧ Bel w0 w') := by
  refine Ret.enter (args := [.pointer (some ⟨p, 0, none⟩)]) Try.func16 rfl Try.ntmps16 Try.results16 rfl ?_
  have hS := St.start w0
  refine WC.seq (fun K1 hK1 => ?_)
  refine WC.region ?_
  refine WL.op rfl (opW.assignI rfl ?_)
  refine WL.nil ?_
  refine thenQ_n (hK1 _ _ ?_)
  refine WC.seq (fun K2 hK2 => ?_)
  refine WC.seq (fun K3 hK3 => ?_)
  refine WC.region ?_
  refine WL.op rfl (opW.moveV (v := .pointer (some ⟨p, 0, none⟩)) rfl ?_)
  refine WL.op rfl (opW.eqlP rfl rfl ?_)
  refine WL.nil ?_
  refine thenQ_n (hK3 _ _ ?_)
  refine WC.cond _ rfl (fun hc0 => ?_) (fun hc0 => ?_)
  ·
    have hr0 := hc0
    try simp only [decide_eq_true_eq, decide_eq_false_iff_not, Bool.and_eq_true, Bool.or_eq_true, Bool.and_eq_false_iff, Bool.or_eq_false_iff, Bool.not_eq_true', Bool.not_eq_false', Int.not_lt, Int.not_le] at hc0
    simp at hr0
  ·
    have hr0 := hc0
    try simp only [decide_eq_true_eq, decide_eq_false_iff_not, Bool.and_eq_true, Bool.or_eq_true, Bool.and_eq_false_iff, Bool.or_eq_false_iff, Bool.not_eq_true', Bool.not_eq_false', Int.not_lt, Int.not_le] at hc0
    refine WC.skip ?_
    refine thenQ_n (hK2 _ _ ?_)
    refine WC.seq (fun K4 hK4 => ?_)
    refine WC.region ?_
    refine WL.op rfl (opW.moveV (v := .pointer (some ⟨p, 0, none⟩)) rfl ?_)
    refine WL.op rfl (opW.nilCheckB rfl ?_)
    refine WL.op rfl (opW.fieldAddrB rfl ?_)
    refine WL.op rfl (opW.loadV rfl ((hp.bel hS.old).at1 (TrS.at_block _)) ?_)
    refine WL.op rfl (opW.assignI rfl ?_)
    refine WL.nil ?_
    refine thenQ_n (hK4 _ _ ?_)
    refine WC.ret ?_
    refine bodyQ_ret (.tmpI rfl .nil) ?_
    exact ⟨rfl, hS.old⟩

theorem block_void (w0 : World) (v : Value)  (h : VoidT w0 v) : Ret Try.prog 16 #[v] w0 (fun u w' => u = .int .u64 0 ∧ Bel w0 w') := by
  rcases h with rfl | ⟨p, rfl, hp⟩
  · exact block_none w0 
  · exact block_zero w0 p  hp

theorem space_none (w0 : World)  : Ret Try.prog 18 #[.pointer none] w0 (fun u w' => u = .int .u64 0 ∧ Bel w0 w') := by
  refine Ret.enter (args := [.pointer none]) Try.func18 rfl Try.ntmps18 Try.results18 rfl ?_
  have hS := St.start w0
  refine WC.seq (fun K1 hK1 => ?_)
  refine WC.region ?_
  refine WL.op rfl (opW.assignI rfl ?_)
  refine WL.nil ?_
  refine thenQ_n (hK1 _ _ ?_)
  refine WC.seq (fun K2 hK2 => ?_)
  refine WC.seq (fun K3 hK3 => ?_)
  refine WC.region ?_
  refine WL.op rfl (opW.moveV (v := .pointer none) rfl ?_)
  refine WL.op rfl (opW.eqlP rfl rfl ?_)
  refine WL.nil ?_
  refine thenQ_n (hK3 _ _ ?_)
  refine WC.cond _ rfl (fun hc0 => ?_) (fun hc0 => ?_)
  ·
    have hr0 := hc0
    try simp only [decide_eq_true_eq, decide_eq_false_iff_not, Bool.and_eq_true, Bool.or_eq_true, Bool.and_eq_false_iff, Bool.or_eq_false_iff, Bool.not_eq_true', Bool.not_eq_false', Int.not_lt, Int.not_le] at hc0
    refine WC.seq (fun K4 hK4 => ?_)
    refine WC.region ?_
    refine WL.op rfl (opW.assignI rfl ?_)
    refine WL.nil ?_
    refine thenQ_n (hK4 _ _ ?_)
    refine WC.ret ?_
    refine thenQ_r ?_
    refine bodyQ_ret (.tmpI rfl .nil) ?_
    exact ⟨rfl, hS.old⟩
  ·
    have hr0 := hc0
    try simp only [decide_eq_true_eq, decide_eq_false_iff_not, Bool.and_eq_true, Bool.or_eq_true, Bool.and_eq_false_iff, Bool.or_eq_false_iff, Bool.not_eq_true', Bool.not_eq_false', Int.not_lt, Int.not_le] at hc0
    simp at hr0

theorem space_zero (w0 : World) (p : Nat)  (hp : Pt w0 (.pointer (some ⟨p, 0, none⟩)) (Enc.enc (TrS.mk ⟨0, 0, 0⟩ 0 0 none))) : Ret Try.prog 18 #[.pointer (some ⟨p, 0, none⟩)] w0 (fun u w' => u = .int .u64 0 ∧ Bel w0 w') := by
  refine Ret.enter (args := [.pointer (some ⟨p, 0, none⟩)]) Try.func18 rfl Try.ntmps18 Try.results18 rfl ?_
  have hS := St.start w0
  refine WC.seq (fun K1 hK1 => ?_)
  refine WC.region ?_
  refine WL.op rfl (opW.assignI rfl ?_)
  refine WL.nil ?_
  refine thenQ_n (hK1 _ _ ?_)
  refine WC.seq (fun K2 hK2 => ?_)
  refine WC.seq (fun K3 hK3 => ?_)
  refine WC.region ?_
  refine WL.op rfl (opW.moveV (v := .pointer (some ⟨p, 0, none⟩)) rfl ?_)
  refine WL.op rfl (opW.eqlP rfl rfl ?_)
  refine WL.nil ?_
  refine thenQ_n (hK3 _ _ ?_)
  refine WC.cond _ rfl (fun hc0 => ?_) (fun hc0 => ?_)
  ·
    have hr0 := hc0
    try simp only [decide_eq_true_eq, decide_eq_false_iff_not, Bool.and_eq_true, Bool.or_eq_true, Bool.and_eq_false_iff, Bool.or_eq_false_iff, Bool.not_eq_true', Bool.not_eq_false', Int.not_lt, Int.not_le] at hc0
    simp at hr0
  ·
    have hr0 := hc0
    try simp only [decide_eq_true_eq, decide_eq_false_iff_not, Bool.and_eq_true, Bool.or_eq_true, Bool.and_eq_false_iff, Bool.or_eq_false_iff, Bool.not_eq_true', Bool.not_eq_false', Int.not_lt, Int.not_le] at hc0
    refine WC.skip ?_
    refine thenQ_n (hK2 _ _ ?_)
    refine WC.seq (fun K4 hK4 => ?_)
    refine WC.region ?_
    refine WL.op rfl (opW.moveV (v := .pointer (some ⟨p, 0, none⟩)) rfl ?_)
    refine WL.op rfl (opW.nilCheckB rfl ?_)
    refine WL.op rfl (opW.fieldAddrB rfl ?_)
    refine WL.op rfl (opW.loadV rfl ((hp.bel hS.old).at1 (TrS.at_space _)) ?_)
    refine WL.op rfl (opW.assignI rfl ?_)
    refine WL.nil ?_
    refine thenQ_n (hK4 _ _ ?_)
    refine WC.ret ?_
    refine bodyQ_ret (.tmpI rfl .nil) ?_
    exact ⟨rfl, hS.old⟩

theorem space_void (w0 : World) (v : Value)  (h : VoidT w0 v) : Ret Try.prog 18 #[v] w0 (fun u w' => u = .int .u64 0 ∧ Bel w0 w') := by
  rcases h with rfl | ⟨p, rfl, hp⟩
  · exact space_none w0 
  · exact space_zero w0 p  hp

theorem ofk_none (w0 : World) (k : Key) : Ret Try.prog 20 #[.pointer none, .agg (Enc.enc k)] w0 (fun u w' => u = .int .u64 0 ∧ Bel w0 w') := by
  refine Ret.enter (args := [.pointer none, .agg (Enc.enc k)]) Try.func20 rfl Try.ntmps20 Try.results20 rfl ?_
  have hS := St.start w0
  refine WC.seq (fun K1 hK1 => ?_)
  refine WC.region ?_
  refine WL.op rfl (opW.boxA hS rfl ?_)
  intro b3 w _ hS
  refine WL.op rfl (opW.assignI rfl ?_)
  refine WL.nil ?_
  refine thenQ_n (hK1 _ _ ?_)
  refine WC.seq (fun K2 hK2 => ?_)
  refine WC.seq (fun K3 hK3 => ?_)
  refine WC.region ?_
  refine WL.op rfl (opW.moveV (v := .pointer none) rfl ?_)
  refine WL.op rfl (opW.eqlP rfl rfl ?_)
  refine WL.nil ?_
  refine thenQ_n (hK3 _ _ ?_)
  refine WC.cond _ rfl (fun hc0 => ?_) (fun hc0 => ?_)
  ·
    have hr0 := hc0
    try simp only [decide_eq_true_eq, decide_eq_false_iff_not, Bool.and_eq_true, Bool.or_eq_true, Bool.and_eq_false_iff, Bool.or_eq_false_iff, Bool.not_eq_true', Bool.not_eq_false', Int.not_lt, Int.not_le] at hc0
    refine WC.seq (fun K4 hK4 => ?_)
    refine WC.region ?_
    refine WL.op rfl (opW.assignI rfl ?_)
    refine WL.nil ?_
    refine thenQ_n (hK4 _ _ ?_)
    refine WC.ret ?_
    refine thenQ_r ?_
    refine bodyQ_ret (.tmpI rfl .nil) ?_
    exact ⟨rfl, hS.old⟩
  ·
    have hr0 := hc0
    try simp only [decide_eq_true_eq, decide_eq_false_iff_not, Bool.and_eq_true, Bool.or_eq_true, Bool.and_eq_false_iff, Bool.or_eq_false_iff, Bool.not_eq_true', Bool.not_eq_false', Int.not_lt, Int.not_le] at hc0
    simp at hr0

theorem ofk_zero (w0 : World) (p : Nat) (k : Key) (hp : Pt w0 (.pointer (some ⟨p, 0, none⟩)) (Enc.enc (TrS.mk ⟨0, 0, 0⟩ 0 0 none))) : Ret Try.prog 20 #[.pointer (some ⟨p, 0, none⟩), .agg (Enc.enc k)] w0 (fun u w' => u = .int .u64 0 ∧ Bel w0 w') := by
  refine Ret.enter (args := [.pointer (some ⟨p, 0, none⟩), .agg (Enc.enc k)]) Try.func20 rfl Try.ntmps20 Try.results20 rfl ?_
  have hS := St.start w0
  refine WC.seq (fun K1 hK1 => ?_)
  refine WC.region ?_
  refine WL.op rfl (opW.boxA hS rfl ?_)
  intro b3 w _ hS
  refine WL.op rfl (opW.assignI rfl ?_)
  refine WL.nil ?_
  refine thenQ_n (hK1 _ _ ?_)
  refine WC.seq (fun K2 hK2 => ?_)
  refine WC.seq (fun K3 hK3 => ?_)
  refine WC.region ?_
  refine WL.op rfl (opW.moveV (v := .pointer (some ⟨p, 0, none⟩)) rfl ?_)
  refine WL.op rfl (opW.eqlP rfl rfl ?_)
  refine WL.nil ?_
  refine thenQ_n (hK3 _ _ ?_)
  refine WC.cond _ rfl (fun hc0 => ?_) (fun hc0 => ?_)
  ·
    have hr0 := hc0
    try simp only [decide_eq_true_eq, decide_eq_false_iff_not, Bool.and_eq_true, Bool.or_eq_true, Bool.and_eq_false_iff, Bool.or_eq_false_iff, Bool.not_eq_true', Bool.not_eq_false', Int.not_lt, Int.not_le] at hc0
    simp at hr0
  ·
    have hr0 := hc0
    try simp only [decide_eq_true_eq, decide_eq_false_iff_not, Bool.and_eq_true, Bool.or_eq_true, Bool.and_eq_false_iff, Bool.or_eq_false_iff, Bool.not_eq_true', Bool.not_eq_false', Int.not_lt, Int.not_le] at hc0
    refine WC.skip ?_
    refine thenQ_n (hK2 _ _ ?_)
    refine WC.seq (fun K4 hK4 => ?_)
    refine WC.draw 7 (.look 0 (.look 1 (.look 2 (.look 3 (.look 4 (.look 5 (.look 6 .nil))))))) (by kernel_rfl) (fun _ _ _ h => h) (fun w1 hw1 => ?_)
    replace hS := hS.bel hw1
    have hS1 := hS
    have hT := St.start w1
    refine ML.look rfl rfl rfl (fun w hw => (by have hS := hS1.bel hw; exact opW.moveV (v := .pointer (some ⟨p, 0, none⟩)) rfl ⟨rfl, rfl⟩)) ?_
    refine ML.look rfl rfl rfl (fun w hw => (by have hS := hS1.bel hw; exact opW.nilCheckB rfl ⟨rfl, rfl⟩)) ?_
    refine ML.look rfl rfl rfl (fun w hw => (by have hS := hS1.bel hw; exact opW.fieldAddrB rfl ⟨rfl, rfl⟩)) ?_
    refine ML.look rfl rfl rfl (fun w hw => (by have hS := hS1.bel hw; exact opW.loadV rfl ((hp.bel hS.old).at1 (TrS.at_of _)) ⟨rfl, rfl⟩)) ?_
    refine ML.look rfl rfl rfl (fun w hw => (by have hS := hS1.bel hw; exact opW.loadV rfl (hS.ldA (cs := Enc.enc k) (by first | exact .here | exact .there (.here) | exact .there (.there (.here)) | exact .there (.there (.there (.here))) | exact .there (.there (.there (.there (.here)))) | exact .there (.there (.there (.there (.there (.here))))) | exact .there (.there (.there (.there (.there (.there (.here)))))) | exact .there (.there (.there (.there (.there (.there (.there (.here))))))) | exact .there (.there (.there (.there (.there (.there (.there (.there (.here))))))))) (Enc.size_eq _)) ⟨rfl, rfl⟩)) ?_
    refine ML.look rfl rfl rfl (fun w hw => (by have hS := hS1.bel hw; exact opW.lookupNil (κ := Key) (k := k) rfl rfl ⟨rfl, rfl⟩)) ?_
    refine ML.look rfl rfl rfl (fun w hw => (by have hS := hS1.bel hw; exact opW.assignI rfl ⟨rfl, rfl⟩)) ?_
    refine ML.nil ?_
    refine thenQ_n (hK4 _ _ ?_)
    refine WC.ret ?_
    refine bodyQ_ret (.tmpI rfl .nil) ?_
    exact ⟨rfl, hS.old⟩

theorem ofk_void (w0 : World) (v : Value) (k : Key) (h : VoidT w0 v) : Ret Try.prog 20 #[v, .agg (Enc.enc k)] w0 (fun u w' => u = .int .u64 0 ∧ Bel w0 w') := by
  rcases h with rfl | ⟨p, rfl, hp⟩
  · exact ofk_none w0 k
  · exact ofk_zero w0 p k hp

theorem void_law (w0 : World) (x : Asked) (ky : Key) : Ret Try.prog 4 #[.agg (Enc.enc x), .agg (Enc.enc ky)] w0 (fun r w' => r = .bool true ∧ Bel w0 w') := by
  refine Ret.enter (args := [.agg (Enc.enc x), .agg (Enc.enc ky)]) Try.func4 rfl Try.ntmps4 Try.results4 rfl ?_
  have hS := St.start w0
  refine WC.seq (fun K1 hK1 => ?_)
  refine WC.region ?_
  refine WL.op rfl (opW.boxA hS rfl ?_)
  intro b2 w _ hS
  refine WL.op rfl (opW.boxA hS rfl ?_)
  intro b3 w _ hS
  refine WL.op rfl (opW.assignB rfl ?_)
  refine WL.nil ?_
  refine thenQ_n (hK1 _ _ ?_)
  refine WC.seq (fun K2 hK2 => ?_)
  refine WC.region ?_
  refine WL.op rfl (opW.allocA hS ?_)
  intro b5 w _ hS
  refine WL.nil ?_
  refine thenQ_n (hK2 _ _ ?_)
  refine WC.seq (fun K3 hK3 => ?_)
  refine WC.region ?_
  refine WL.op rfl (opW.buildSl hS (([⟨none⟩, ⟨some b5⟩] : List PtV)) [.pointer none, .pointer (some ⟨b5, 0, none⟩)] rfl rfl rfl rfl (by decide) ?_)
  intro b8 w hw hS
  refine WL.op rfl (opW.assignV (v := (.slice (some ⟨b8, 0, none⟩) 2 2)) rfl ?_)
  refine WL.nil ?_
  refine thenQ_n (hK3 _ _ ?_)
  refine WC.seq (fun K4 hK4 => ?_)
  refine WC.seq (fun K5 hK5 => ?_)
  refine WC.region ?_
  refine WL.op rfl (opW.assignI rfl ?_)
  refine WL.nil ?_
  refine thenQ_n (hK5 _ _ ?_)
  refine WC.block ?_
  refine WC.loop (fun q f w => ∃ k : Nat, Fits [(2, .pointer (some ⟨b2, 0, none⟩)), (3, .pointer (some ⟨b3, 0, none⟩)), (6, (.slice (some ⟨b8, 0, none⟩) 2 2)), (7, .int .i64 (k : Int))] f ∧ St w0 [ownE (.slice (some ⟨b8, 0, none⟩) 2 2) 30 ([⟨none⟩, ⟨some b5⟩] : List PtV), blkE b5 (Enc.enc (TrS.mk ⟨0, 0, 0⟩ 0 0 none)) 44, blkE b3 (Enc.enc ky) 27, blkE b2 (Enc.enc x) 36] w ∧ k ≤ 2 ∧ q = 2 - k) (2) ?_ ?_
  ·
    exact ⟨0, ⟨rfl, rfl, rfl, rfl, trivial⟩, hS, Nat.zero_le _, rfl⟩
  ·
    rintro q f w ⟨k, hfit, hS, hk0, hm⟩
    refine WC.fits _ hfit (fun g => ?_)
    clear hfit
    refine WC.seq (fun K6 hK6 => ?_)
    refine WC.seq (fun K7 hK7 => ?_)
    refine WC.region ?_
    refine WL.op rfl (opW.moveI rfl ?_)
    refine WL.op rfl (opW.lss rfl rfl ?_)
    refine WL.nil ?_
    refine thenQ_n (hK7 _ _ ?_)
    refine WC.cond _ rfl (fun hc0 => ?_) (fun hc0 => ?_)
    ·
      have hr0 := hc0
      try simp only [decide_eq_true_eq, decide_eq_false_iff_not, Bool.and_eq_true, Bool.or_eq_true, Bool.and_eq_false_iff, Bool.or_eq_false_iff, Bool.not_eq_true', Bool.not_eq_false', Int.not_lt, Int.not_le] at hc0
      have hkl : k < ([⟨none⟩, ⟨some b5⟩] : List PtV).length := by show k < 2; omega
      have hv : VoidT w (([⟨none⟩, ⟨some b5⟩] : List PtV)[k]).v := by
        rcases (by omega : k = 0 ∨ k = 1) with rfl | rfl
        · exact .inl rfl
        · exact .inr ⟨b5, rfl, hS.pt (by first | exact .here | exact .there (.here) | exact .there (.there (.here)) | exact .there (.there (.there (.here))) | exact .there (.there (.there (.there (.here)))) | exact .there (.there (.there (.there (.there (.here))))) | exact .there (.there (.there (.there (.there (.there (.here)))))) | exact .there (.there (.there (.there (.there (.there (.there (.here))))))) | exact .there (.there (.there (.there (.there (.there (.there (.there (.here)))))))))⟩
      generalize hpv : (([⟨none⟩, ⟨some b5⟩] : List PtV)[k]).v = pv at hv
      refine WC.skip ?_
      refine thenQ_n (hK6 _ _ ?_)
      refine WC.seq (fun K8 hK8 => ?_)
      refine WC.block ?_
      refine WC.seq (fun K9 hK9 => ?_)
      refine WC.draw 51 (.look 0 (.look 1 (.look 2 (.look 3 (.look 4 (.look 5 (.look 6 (.look 7 (.look 8 (.look 9 (.one 10 (.look 11 (.look 12 (.look 13 (.look 14 (.look 15 (.look 16 (.look 17 (.look 18 (.look 19 (.look 20 (.look 21 (.look 22 (.one 23 (.look 24 (.look 25 (.look 26 (.look 27 (.look 28 (.look 29 (.look 30 (.one 31 (.look 32 (.look 33 (.look 34 (.look 35 (.look 36 (.look 37 (.look 38 (.look 39 (.one 40 (.look 41 (.look 42 (.look 43 (.look 44 (.look 45 (.look 46 (.look 47 (.one 48 (.look 49 (.look 50 .nil))))))))))))))))))))))))))))))))))))))))))))))))))) (by kernel_rfl) (fun _ _ _ h => h) (fun w1 hw1 => ?_)
      replace hS := hS.bel hw1
      have hS1 := hS
      have hT := St.start w1
      replace hv := hv.bel hw1
      refine ML.look rfl rfl rfl (fun w hw => (by have hS := hS1.bel hw; exact opW.moveV (v := (.slice (some ⟨b8, 0, none⟩) 2 2)) rfl ⟨rfl, rfl⟩)) ?_
      refine ML.look rfl rfl rfl (fun w hw => (by have hS := hS1.bel hw; exact opW.moveI rfl ⟨rfl, rfl⟩)) ?_
      refine ML.look rfl rfl rfl (fun w hw => (by have hS := hS1.bel hw; exact opW.idxV rfl ((hS.sl (xs := ([⟨none⟩, ⟨some b5⟩] : List PtV)) (by first | exact .here | exact .there (.here) | exact .there (.there (.here)) | exact .there (.there (.there (.here))) | exact .there (.there (.there (.there (.here)))) | exact .there (.there (.there (.there (.there (.here))))) | exact .there (.there (.there (.there (.there (.there (.here)))))) | exact .there (.there (.there (.there (.there (.there (.there (.here))))))) | exact .there (.there (.there (.there (.there (.there (.there (.there (.here))))))))))) rfl (by omega) ⟨rfl, rfl⟩)) ?_
      refine ML.look rfl rfl rfl (fun w hw => (by have hS := hS1.bel hw; exact opW.loadV rfl (((hS.sl (xs := ([⟨none⟩, ⟨some b5⟩] : List PtV)) (by first | exact .here | exact .there (.here) | exact .there (.there (.here)) | exact .there (.there (.there (.here))) | exact .there (.there (.there (.there (.here)))) | exact .there (.there (.there (.there (.there (.here))))) | exact .there (.there (.there (.there (.there (.there (.here)))))) | exact .there (.there (.there (.there (.there (.there (.there (.here))))))) | exact .there (.there (.there (.there (.there (.there (.there (.there (.here)))))))))).isPt hkl).ldP hpv) ⟨rfl, rfl⟩)) ?_
      refine ML.look rfl rfl rfl (fun w hw => (by have hS := hS1.bel hw; exact opW.fieldAddrB rfl ⟨rfl, rfl⟩)) ?_
      refine ML.look rfl rfl rfl (fun w hw => (by have hS := hS1.bel hw; exact opW.loadV rfl (hS.ld1 (by first | exact .here | exact .there (.here) | exact .there (.there (.here)) | exact .there (.there (.there (.here))) | exact .there (.there (.there (.there (.here)))) | exact .there (.there (.there (.there (.there (.here))))) | exact .there (.there (.there (.there (.there (.there (.here)))))) | exact .there (.there (.there (.there (.there (.there (.there (.here))))))) | exact .there (.there (.there (.there (.there (.there (.there (.there (.here))))))))) (Asked.at_cost _)) ⟨rfl, rfl⟩)) ?_
      refine ML.look rfl rfl rfl (fun w hw => (by have hS := hS1.bel hw; exact opW.fieldAddrB rfl ⟨rfl, rfl⟩)) ?_
      refine ML.look rfl rfl rfl (fun w hw => (by have hS := hS1.bel hw; exact opW.loadV rfl (hS.ld1 (by first | exact .here | exact .there (.here) | exact .there (.there (.here)) | exact .there (.there (.there (.here))) | exact .there (.there (.there (.there (.here)))) | exact .there (.there (.there (.there (.there (.here))))) | exact .there (.there (.there (.there (.there (.there (.here)))))) | exact .there (.there (.there (.there (.there (.there (.there (.here))))))) | exact .there (.there (.there (.there (.there (.there (.there (.there (.here))))))))) (Asked.at_keys _)) ⟨rfl, rfl⟩)) ?_
      refine ML.look rfl rfl rfl (fun w hw => (by have hS := hS1.bel hw; exact opW.fieldAddrB rfl ⟨rfl, rfl⟩)) ?_
      refine ML.look rfl rfl rfl (fun w hw => (by have hS := hS1.bel hw; exact opW.loadV rfl (hS.ld1 (by first | exact .here | exact .there (.here) | exact .there (.there (.here)) | exact .there (.there (.there (.here))) | exact .there (.there (.there (.there (.here)))) | exact .there (.there (.there (.there (.there (.here))))) | exact .there (.there (.there (.there (.there (.there (.here)))))) | exact .there (.there (.there (.there (.there (.there (.there (.here))))))) | exact .there (.there (.there (.there (.there (.there (.there (.there (.here))))))))) (Asked.at_space _)) ⟨rfl, rfl⟩)) ?_
      refine ML.one rfl rfl rfl (opW.call (would_void _ pv x.cost x.keys.v x.space (hv.bel hT.old)) rfl ?_)
      rintro v w ⟨rfl, hw⟩; replace hT := hT.bel hw
      refine ⟨hT.old, ?_⟩
      have hS := hS1.merge hT
      try simp only [List.cons_append, List.nil_append] at hS
      refine ML.look rfl rfl rfl (fun w hw => (by have hS := hS1.bel hw; exact opW.boolF (by decide) (opW.neq rfl rfl ⟨rfl, rfl⟩) ⟨rfl, rfl⟩)) ?_
      refine ML.look rfl rfl rfl (fun w hw => (by have hS := hS1.bel hw; exact opW.moveB rfl ⟨rfl, rfl⟩)) ?_
      refine ML.lookT 25 rfl rfl rfl rfl rfl rfl (fun w hw => (by have hS := hS1.bel hw; exact opW.moveV (v := (.slice (some ⟨b8, 0, none⟩) 2 2)) rfl ⟨rfl, rfl⟩)) ?_
      refine ML.lookT 25 rfl rfl rfl rfl rfl rfl (fun w hw => (by have hS := hS1.bel hw; exact opW.moveI rfl ⟨rfl, rfl⟩)) ?_
      refine ML.lookT 25 rfl rfl rfl rfl rfl rfl (fun w hw => (by have hS := hS1.bel hw; exact opW.idxV rfl ((hS.sl (xs := ([⟨none⟩, ⟨some b5⟩] : List PtV)) (by first | exact .here | exact .there (.here) | exact .there (.there (.here)) | exact .there (.there (.there (.here))) | exact .there (.there (.there (.there (.here)))) | exact .there (.there (.there (.there (.there (.here))))) | exact .there (.there (.there (.there (.there (.there (.here)))))) | exact .there (.there (.there (.there (.there (.there (.there (.here))))))) | exact .there (.there (.there (.there (.there (.there (.there (.there (.here))))))))))) rfl (by omega) ⟨rfl, rfl⟩)) ?_
      refine ML.lookT 25 rfl rfl rfl rfl rfl rfl (fun w hw => (by have hS := hS1.bel hw; exact opW.loadV rfl (((hS.sl (xs := ([⟨none⟩, ⟨some b5⟩] : List PtV)) (by first | exact .here | exact .there (.here) | exact .there (.there (.here)) | exact .there (.there (.there (.here))) | exact .there (.there (.there (.there (.here)))) | exact .there (.there (.there (.there (.there (.here))))) | exact .there (.there (.there (.there (.there (.there (.here)))))) | exact .there (.there (.there (.there (.there (.there (.there (.here))))))) | exact .there (.there (.there (.there (.there (.there (.there (.there (.here)))))))))).isPt hkl).ldP hpv) ⟨rfl, rfl⟩)) ?_
      refine ML.lookT 25 rfl rfl rfl rfl rfl rfl (fun w hw => (by have hS := hS1.bel hw; exact opW.fieldAddrB rfl ⟨rfl, rfl⟩)) ?_
      refine ML.lookT 25 rfl rfl rfl rfl rfl rfl (fun w hw => (by have hS := hS1.bel hw; exact opW.loadV rfl (hS.ld1 (by first | exact .here | exact .there (.here) | exact .there (.there (.here)) | exact .there (.there (.there (.here))) | exact .there (.there (.there (.there (.here)))) | exact .there (.there (.there (.there (.there (.here))))) | exact .there (.there (.there (.there (.there (.there (.here)))))) | exact .there (.there (.there (.there (.there (.there (.there (.here))))))) | exact .there (.there (.there (.there (.there (.there (.there (.there (.here))))))))) (Asked.at_cost _)) ⟨rfl, rfl⟩)) ?_
      refine ML.lookT 25 rfl rfl rfl rfl rfl rfl (fun w hw => (by have hS := hS1.bel hw; exact opW.fieldAddrB rfl ⟨rfl, rfl⟩)) ?_
      refine ML.lookT 25 rfl rfl rfl rfl rfl rfl (fun w hw => (by have hS := hS1.bel hw; exact opW.loadV rfl (hS.ld1 (by first | exact .here | exact .there (.here) | exact .there (.there (.here)) | exact .there (.there (.there (.here))) | exact .there (.there (.there (.there (.here)))) | exact .there (.there (.there (.there (.there (.here))))) | exact .there (.there (.there (.there (.there (.there (.here)))))) | exact .there (.there (.there (.there (.there (.there (.there (.here))))))) | exact .there (.there (.there (.there (.there (.there (.there (.there (.here))))))))) (Asked.at_keys _)) ⟨rfl, rfl⟩)) ?_
      refine ML.lookT 25 rfl rfl rfl rfl rfl rfl (fun w hw => (by have hS := hS1.bel hw; exact opW.fieldAddrB rfl ⟨rfl, rfl⟩)) ?_
      refine ML.lookT 25 rfl rfl rfl rfl rfl rfl (fun w hw => (by have hS := hS1.bel hw; exact opW.loadV rfl (hS.ld1 (by first | exact .here | exact .there (.here) | exact .there (.there (.here)) | exact .there (.there (.there (.here))) | exact .there (.there (.there (.there (.here)))) | exact .there (.there (.there (.there (.there (.here))))) | exact .there (.there (.there (.there (.there (.there (.here)))))) | exact .there (.there (.there (.there (.there (.there (.there (.here))))))) | exact .there (.there (.there (.there (.there (.there (.there (.there (.here))))))))) (Asked.at_space _)) ⟨rfl, rfl⟩)) ?_
      refine ML.oneT 25 rfl rfl rfl rfl rfl rfl (opW.call (add_void _ pv x.cost x.keys.v x.space (hv.bel hT.old)) rfl ?_)
      rintro v w ⟨rfl, hw⟩; replace hT := hT.bel hw
      refine ⟨hT.old, ?_⟩
      have hS := hS1.merge hT
      try simp only [List.cons_append, List.nil_append] at hS
      refine ML.lookT 25 rfl rfl rfl rfl rfl rfl (fun w hw => (by have hS := hS1.bel hw; exact opW.boolF (by decide) (opW.neq rfl rfl ⟨rfl, rfl⟩) ⟨rfl, rfl⟩)) ?_
      refine ML.look rfl rfl rfl (fun w hw => (by have hS := hS1.bel hw; exact opW.pickT rfl rfl ⟨rfl, rfl⟩)) ?_
      refine ML.look rfl rfl rfl (fun w hw => (by have hS := hS1.bel hw; exact opW.moveB rfl ⟨rfl, rfl⟩)) ?_
      refine ML.lookT 39 rfl rfl rfl rfl rfl rfl (fun w hw => (by have hS := hS1.bel hw; exact opW.moveV (v := (.slice (some ⟨b8, 0, none⟩) 2 2)) rfl ⟨rfl, rfl⟩)) ?_
      refine ML.lookT 39 rfl rfl rfl rfl rfl rfl (fun w hw => (by have hS := hS1.bel hw; exact opW.moveI rfl ⟨rfl, rfl⟩)) ?_
      refine ML.lookT 39 rfl rfl rfl rfl rfl rfl (fun w hw => (by have hS := hS1.bel hw; exact opW.idxV rfl ((hS.sl (xs := ([⟨none⟩, ⟨some b5⟩] : List PtV)) (by first | exact .here | exact .there (.here) | exact .there (.there (.here)) | exact .there (.there (.there (.here))) | exact .there (.there (.there (.there (.here)))) | exact .there (.there (.there (.there (.there (.here))))) | exact .there (.there (.there (.there (.there (.there (.here)))))) | exact .there (.there (.there (.there (.there (.there (.there (.here))))))) | exact .there (.there (.there (.there (.there (.there (.there (.there (.here))))))))))) rfl (by omega) ⟨rfl, rfl⟩)) ?_
      refine ML.lookT 39 rfl rfl rfl rfl rfl rfl (fun w hw => (by have hS := hS1.bel hw; exact opW.loadV rfl (((hS.sl (xs := ([⟨none⟩, ⟨some b5⟩] : List PtV)) (by first | exact .here | exact .there (.here) | exact .there (.there (.here)) | exact .there (.there (.there (.here))) | exact .there (.there (.there (.there (.here)))) | exact .there (.there (.there (.there (.there (.here))))) | exact .there (.there (.there (.there (.there (.there (.here)))))) | exact .there (.there (.there (.there (.there (.there (.there (.here))))))) | exact .there (.there (.there (.there (.there (.there (.there (.there (.here)))))))))).isPt hkl).ldP hpv) ⟨rfl, rfl⟩)) ?_
      refine ML.oneT 39 rfl rfl rfl rfl rfl rfl (opW.call (block_void _ pv (hv.bel hT.old)) rfl ?_)
      rintro v w ⟨rfl, hw⟩; replace hT := hT.bel hw
      refine ⟨hT.old, ?_⟩
      have hS := hS1.merge hT
      try simp only [List.cons_append, List.nil_append] at hS
      refine ML.lookT 39 rfl rfl rfl rfl rfl rfl (fun w hw => (by have hS := hS1.bel hw; exact opW.boolF (by decide) (opW.neq rfl rfl ⟨rfl, rfl⟩) ⟨rfl, rfl⟩)) ?_
      refine ML.look rfl rfl rfl (fun w hw => (by have hS := hS1.bel hw; exact opW.pickT rfl rfl ⟨rfl, rfl⟩)) ?_
      refine ML.look rfl rfl rfl (fun w hw => (by have hS := hS1.bel hw; exact opW.moveB rfl ⟨rfl, rfl⟩)) ?_
      refine ML.lookT 47 rfl rfl rfl rfl rfl rfl (fun w hw => (by have hS := hS1.bel hw; exact opW.moveV (v := (.slice (some ⟨b8, 0, none⟩) 2 2)) rfl ⟨rfl, rfl⟩)) ?_
      refine ML.lookT 47 rfl rfl rfl rfl rfl rfl (fun w hw => (by have hS := hS1.bel hw; exact opW.moveI rfl ⟨rfl, rfl⟩)) ?_
      refine ML.lookT 47 rfl rfl rfl rfl rfl rfl (fun w hw => (by have hS := hS1.bel hw; exact opW.idxV rfl ((hS.sl (xs := ([⟨none⟩, ⟨some b5⟩] : List PtV)) (by first | exact .here | exact .there (.here) | exact .there (.there (.here)) | exact .there (.there (.there (.here))) | exact .there (.there (.there (.there (.here)))) | exact .there (.there (.there (.there (.there (.here))))) | exact .there (.there (.there (.there (.there (.there (.here)))))) | exact .there (.there (.there (.there (.there (.there (.there (.here))))))) | exact .there (.there (.there (.there (.there (.there (.there (.there (.here))))))))))) rfl (by omega) ⟨rfl, rfl⟩)) ?_
      refine ML.lookT 47 rfl rfl rfl rfl rfl rfl (fun w hw => (by have hS := hS1.bel hw; exact opW.loadV rfl (((hS.sl (xs := ([⟨none⟩, ⟨some b5⟩] : List PtV)) (by first | exact .here | exact .there (.here) | exact .there (.there (.here)) | exact .there (.there (.there (.here))) | exact .there (.there (.there (.there (.here)))) | exact .there (.there (.there (.there (.there (.here))))) | exact .there (.there (.there (.there (.there (.there (.here)))))) | exact .there (.there (.there (.there (.there (.there (.there (.here))))))) | exact .there (.there (.there (.there (.there (.there (.there (.there (.here)))))))))).isPt hkl).ldP hpv) ⟨rfl, rfl⟩)) ?_
      refine ML.lookT 47 rfl rfl rfl rfl rfl rfl (fun w hw => (by have hS := hS1.bel hw; exact opW.loadV rfl (hS.ldA (cs := Enc.enc ky) (by first | exact .here | exact .there (.here) | exact .there (.there (.here)) | exact .there (.there (.there (.here))) | exact .there (.there (.there (.there (.here)))) | exact .there (.there (.there (.there (.there (.here))))) | exact .there (.there (.there (.there (.there (.there (.here)))))) | exact .there (.there (.there (.there (.there (.there (.there (.here))))))) | exact .there (.there (.there (.there (.there (.there (.there (.there (.here))))))))) (Enc.size_eq _)) ⟨rfl, rfl⟩)) ?_
      refine ML.oneT 47 rfl rfl rfl rfl rfl rfl (opW.call (ofk_void _ pv ky (hv.bel hT.old)) rfl ?_)
      rintro v w ⟨rfl, hw⟩; replace hT := hT.bel hw
      refine ⟨hT.old, ?_⟩
      have hS := hS1.merge hT
      try simp only [List.cons_append, List.nil_append] at hS
      refine ML.lookT 47 rfl rfl rfl rfl rfl rfl (fun w hw => (by have hS := hS1.bel hw; exact opW.boolF (by decide) (opW.neq rfl rfl ⟨rfl, rfl⟩) ⟨rfl, rfl⟩)) ?_
      refine ML.look rfl rfl rfl (fun w hw => (by have hS := hS1.bel hw; exact opW.pickT rfl rfl ⟨rfl, rfl⟩)) ?_
      refine ML.look rfl rfl rfl (fun w hw => (by have hS := hS1.bel hw; exact opW.moveB rfl ⟨rfl, rfl⟩)) ?_
      refine ML.lookT 56 rfl rfl rfl rfl rfl rfl (fun w hw => (by have hS := hS1.bel hw; exact opW.moveV (v := (.slice (some ⟨b8, 0, none⟩) 2 2)) rfl ⟨rfl, rfl⟩)) ?_
      refine ML.lookT 56 rfl rfl rfl rfl rfl rfl (fun w hw => (by have hS := hS1.bel hw; exact opW.moveI rfl ⟨rfl, rfl⟩)) ?_
      refine ML.lookT 56 rfl rfl rfl rfl rfl rfl (fun w hw => (by have hS := hS1.bel hw; exact opW.idxV rfl ((hS.sl (xs := ([⟨none⟩, ⟨some b5⟩] : List PtV)) (by first | exact .here | exact .there (.here) | exact .there (.there (.here)) | exact .there (.there (.there (.here))) | exact .there (.there (.there (.there (.here)))) | exact .there (.there (.there (.there (.there (.here))))) | exact .there (.there (.there (.there (.there (.there (.here)))))) | exact .there (.there (.there (.there (.there (.there (.there (.here))))))) | exact .there (.there (.there (.there (.there (.there (.there (.there (.here))))))))))) rfl (by omega) ⟨rfl, rfl⟩)) ?_
      refine ML.lookT 56 rfl rfl rfl rfl rfl rfl (fun w hw => (by have hS := hS1.bel hw; exact opW.loadV rfl (((hS.sl (xs := ([⟨none⟩, ⟨some b5⟩] : List PtV)) (by first | exact .here | exact .there (.here) | exact .there (.there (.here)) | exact .there (.there (.there (.here))) | exact .there (.there (.there (.there (.here)))) | exact .there (.there (.there (.there (.there (.here))))) | exact .there (.there (.there (.there (.there (.there (.here)))))) | exact .there (.there (.there (.there (.there (.there (.there (.here))))))) | exact .there (.there (.there (.there (.there (.there (.there (.there (.here)))))))))).isPt hkl).ldP hpv) ⟨rfl, rfl⟩)) ?_
      refine ML.oneT 56 rfl rfl rfl rfl rfl rfl (opW.call (space_void _ pv (hv.bel hT.old)) rfl ?_)
      rintro v w ⟨rfl, hw⟩; replace hT := hT.bel hw
      refine ⟨hT.old, ?_⟩
      have hS := hS1.merge hT
      try simp only [List.cons_append, List.nil_append] at hS
      refine ML.lookT 56 rfl rfl rfl rfl rfl rfl (fun w hw => (by have hS := hS1.bel hw; exact opW.boolF (by decide) (opW.neq rfl rfl ⟨rfl, rfl⟩) ⟨rfl, rfl⟩)) ?_
      refine ML.look rfl rfl rfl (fun w hw => (by have hS := hS1.bel hw; exact opW.pickT rfl rfl ⟨rfl, rfl⟩)) ?_
      refine ML.nil ?_
      refine thenQ_n (hK9 _ _ ?_)
      refine WC.cond _ rfl (fun hc1 => ?_) (fun hc1 => ?_)
      ·
        have hr1 := hc1
        try simp only [decide_eq_true_eq, decide_eq_false_iff_not, Bool.and_eq_true, Bool.or_eq_true, Bool.and_eq_false_iff, Bool.or_eq_false_iff, Bool.not_eq_true', Bool.not_eq_false', Int.not_lt, Int.not_le] at hc1
        exact absurd hr1 (by decide)
      ·
        have hr1 := hc1
        try simp only [decide_eq_true_eq, decide_eq_false_iff_not, Bool.and_eq_true, Bool.or_eq_true, Bool.and_eq_false_iff, Bool.or_eq_false_iff, Bool.not_eq_true', Bool.not_eq_false', Int.not_lt, Int.not_le] at hc1
        refine WC.skip ?_
        refine blockQ_n ?_
        refine thenQ_n (hK8 _ _ ?_)
        refine WC.region ?_
        refine WL.op rfl (opW.moveI rfl ?_)
        refine WL.op rfl (opW.add rfl rfl (wrap_i64 (by omega)) ?_)
        refine WL.op rfl (opW.assignI rfl ?_)
        refine WL.nil ?_
        refine thenQ_n ?_
        exact ⟨2 - (k + 1), by omega, k + 1, ⟨rfl, rfl, rfl, congrArg (Value.int .i64) (by omega), trivial⟩, hS, by omega, rfl⟩
    ·
      have hr0 := hc0
      try simp only [decide_eq_true_eq, decide_eq_false_iff_not, Bool.and_eq_true, Bool.or_eq_true, Bool.and_eq_false_iff, Bool.or_eq_false_iff, Bool.not_eq_true', Bool.not_eq_false', Int.not_lt, Int.not_le] at hc0
      refine WC.exit ?_
      refine thenQ_e ?_
      refine thenQ_e ?_
      refine blockQ_hit ?_
      refine thenQ_n (hK4 _ _ ?_)
      refine WC.seq (fun K10 hK10 => ?_)
      refine WC.region ?_
      refine WL.op rfl (opW.call (lives20 _) rfl ?_)
      rintro _ w ⟨rfl, hw⟩; replace hS := hS.bel hw
      refine WL.op rfl (opW.assignB rfl ?_)
      refine WL.nil ?_
      refine thenQ_n (hK10 _ _ ?_)
      refine WC.ret ?_
      refine bodyQ_ret (.tmpB rfl .nil) ?_
      exact ⟨rfl, hS.old⟩

end Go.Fer
