/- trackers -/
import Derived.Test.YtinclpfoiljioaaR
set_option linter.all false
namespace Go.Fer
open Go Go.Proofs Go.RowKit

/-- what a tracker is made of -/
structure TrD where
  lim : Limits
  block : Nat
  space : Nat
  r : Nat
  kvs : List (Key × Nat)
def nv (n : Nat) : Value := .int .u64 (n : Int)
def TrD.ofK (d : TrD) (k : Key) : Nat := (aget k d.kvs).getD 0
@[irreducible] def trE (p : Nat) (d : TrD) : Ent := starE [blkE p (Enc.enc (TrS.mk d.lim d.block d.space (some d.r))) 44, mapE d.r nv d.kvs]
theorem St.trOpen {w0 w : World} {S : List Ent} {p : Nat} {d : TrD} (h : St w0 (trE p d :: S) w) : St w0 (blkE p (Enc.enc (TrS.mk d.lim d.block d.space (some d.r))) 44 :: mapE d.r nv d.kvs :: S) w := by
  unfold trE at h
  exact h.opened
theorem St.trClose {w0 w : World} {S : List Ent} {p : Nat} (d : TrD) (h : St w0 (blkE p (Enc.enc (TrS.mk d.lim d.block d.space (some d.r))) 44 :: mapE d.r nv d.kvs :: S) w) : St w0 (trE p d :: S) w := by
  unfold trE
  exact St.closed (l := [blkE p (Enc.enc (TrS.mk d.lim d.block d.space (some d.r))) 44, mapE d.r nv d.kvs]) h
def TrAt (w : World) (p : Nat) (d : TrD) : Prop := Pt w (.pointer (some ⟨p, 0, none⟩)) (Enc.enc (TrS.mk d.lim d.block d.space (some d.r))) ∧ MapB w d.r nv d.kvs
theorem TrAt.bel {w w' : World} {p : Nat} {d : TrD} (h : TrAt w p d) (hb : Bel w w') : TrAt w' p d := ⟨h.1.bel hb, h.2.bel hb⟩
theorem St.trAt {w0 w : World} {S : List Ent} {p : Nat} {d : TrD} (h : St w0 S w) (he : Has (trE p d) S) : TrAt w p d := by
  have h1 := h.get he
  unfold trE at h1
  rw [starE_A] at h1
  refine ⟨?_, ?_⟩
  · have := h1.2 (blkE p (Enc.enc (TrS.mk d.lim d.block d.space (some d.r))) 44) (by simp)
    unfold blkE at this
    exact Pt.blk this
  · have := h1.2 (mapE d.r nv d.kvs) (by simp)
    rw [mapE_A] at this; exact this
/-- may it be added? -/
def wouldC (d : TrD) (cost : Nat) (keys : List Key) (space : Nat) : Int :=
  if d.lim.block < sumH d.block cost then 24 else if keys.any (fun k => decide (d.lim.account < sumH (d.ofK k) cost)) = true then 25 else if d.lim.space < sumH d.space space then 26 else 0
/-- it was added -/
def AddIs (d : TrD) (cost : Nat) (keys : List Key) (space : Nat) (d' : TrD) : Prop :=
  d'.lim = d.lim ∧ d'.block = sumH d.block cost ∧ d'.space = sumH d.space space ∧ ∀ k, d'.ofK k = if k ∈ keys then sumH (d.ofK k) cost else d.ofK k
def sumsH (l : List U64) : Nat := l.foldl (fun n x => sumH n x.n) 0
theorem foldl_top (l : List U64) : l.foldl (fun n x => sumH n x.n) 18446744073709551615 = 18446744073709551615 := by
  induction l with
  | nil => rfl
  | cons x l ih =>
    rw [List.foldl_cons]
    have : sumH 18446744073709551615 x.n = 18446744073709551615 := by unfold sumH; split <;> omega
    rw [this]; exact ih
theorem sumsH_step {l : List U64} {k : Nat} (hk : k < l.length) : sumsH (l.take (k + 1)) = sumH (sumsH (l.take k)) l[k].n := by
  unfold sumsH
  rw [List.take_succ_eq_append_getElem hk, List.foldl_append]; rfl
theorem sumsH_over {l : List U64} {k : Nat} (hk : k < l.length) (h : 18446744073709551616 ≤ sumsH (l.take k) + l[k].n) : sumsH l = 18446744073709551615 := by
  have e : l = l.take (k + 1) ++ l.drop (k + 1) := (List.take_append_drop _ _).symm
  have h1 := sumsH_step hk
  have h2 : sumH (sumsH (l.take k)) l[k].n = 18446744073709551615 := by unfold sumH; split <;> omega
  rw [h2] at h1
  rw [e]
  unfold sumsH at h1 ⊢
  rw [List.foldl_append, h1, foldl_top]
theorem sumsH_two (a b : Nat) (ha : a < 18446744073709551616) : sumsH [⟨a⟩, ⟨b⟩] = sumH a b := by
  show sumH (sumH 0 a) b = sumH a b
  have : sumH 0 a = a := by unfold sumH; split <;> omega
  rw [this]

theorem add64 (x y : Nat) (w : World) : (callFunc 25 #[.int .u64 (x : Int), .int .u64 (y : Int), .int .u64 0]).run Try.prog w = .ok (.value (.tuple #[.int .u64 (((x + y) % 18446744073709551616 : Nat) : Int), .int .u64 (((x + y) / 18446744073709551616 : Nat) : Int)])) w :=
  run_add64' Try.func25 (by kernel_rfl) (by kernel_rfl) (by kernel_rfl) (by kernel_rfl) x y w
def TrOk (d : TrD) : Prop := d.block < 18446744073709551616 ∧ d.space < 18446744073709551616 ∧ ∀ k, d.ofK k < 18446744073709551616
theorem AddIs.ok {d d' : TrD} {cost space : Nat} {keys : List Key} (h : AddIs d cost keys space d') (hd : TrOk d) : TrOk d' := by
  obtain ⟨_, h2, h3, h4⟩ := h
  refine ⟨by rw [h2]; exact sumH_lt _ _, by rw [h3]; exact sumH_lt _ _, fun k => ?_⟩
  rw [h4]; split
  · exact sumH_lt _ _
  · exact hd.2.2 k

theorem sum_ok (w0 : World) (v : Value) (l : List U64) (hx : SlR w0 v l) : Ret Try.prog 22 #[v] w0 (fun u w' => u = .int .u64 (sumsH l : Int) ∧ Bel w0 w') := by
  refine Ret.enter (args := [v]) Try.func22 rfl Try.ntmps22 Try.results22 rfl ?_
  have hS := St.start w0
  refine WC.seq (fun K1 hK1 => ?_)
  refine WC.region ?_
  refine WL.op rfl (opW.assignI rfl ?_)
  refine WL.nil ?_
  refine thenQ_n (hK1 _ _ ?_)
  refine WC.seq (fun K2 hK2 => ?_)
  refine WC.seq (fun K3 hK3 => ?_)
  refine WC.region ?_
  refine WL.op rfl (opW.moveV (v := v) rfl ?_)
  refine WL.op rfl (opW.lenV rfl ((hx.bel hS.old)) ?_)
  refine WL.op rfl (opW.moveI rfl ?_)
  refine WL.nil ?_
  refine thenQ_n (hK3 _ _ ?_)
  refine WC.block ?_
  refine WC.loop (fun q f w => ∃ k : Nat, Fits [(2, .int .u64 ((sumsH (l.take k)) : Int)), (7, v), (8, .int .i64 (l.length : Int)), (9, .int .i64 (k : Int))] f ∧ St w0 [] w ∧ k ≤ l.length ∧ q = l.length - k) (l.length) ?_ ?_
  ·
    exact ⟨0, ⟨rfl, rfl, rfl, rfl, trivial⟩, hS, Nat.zero_le _, rfl⟩
  ·
    rintro q f w ⟨k, hfit, hS, hk0, hm⟩
    refine WC.fits _ hfit (fun g => ?_)
    clear hfit
    refine WC.seq (fun K4 hK4 => ?_)
    refine WC.region ?_
    refine WL.op rfl (opW.lss rfl rfl ?_)
    refine WL.nil ?_
    refine thenQ_n (hK4 _ _ ?_)
    refine WC.seq (fun K5 hK5 => ?_)
    refine WC.cond _ rfl (fun hc0 => ?_) (fun hc0 => ?_)
    ·
      have hr0 := hc0
      try simp only [decide_eq_true_eq, decide_eq_false_iff_not, Bool.and_eq_true, Bool.or_eq_true, Bool.and_eq_false_iff, Bool.or_eq_false_iff, Bool.not_eq_true', Bool.not_eq_false', Int.not_lt, Int.not_le] at hc0
      have hkl : k < l.length := by omega
      have hle := hx.le
      simp only [maxLen] at hle
      have hst := sumsH_step hkl
      refine WC.skip ?_
      refine thenQ_n (hK5 _ _ ?_)
      refine WC.seq (fun K6 hK6 => ?_)
      refine WC.block ?_
      refine WC.seq (fun K7 hK7 => ?_)
      refine WC.region ?_
      refine WL.op rfl (opW.idxV rfl ((hx.bel hS.old)) rfl (by omega) ?_)
      refine WL.op rfl (opW.loadV rfl (((hx.bel hS.old).isPt hkl).ld (by rw [enc_u64]; rfl)) ?_)
      refine WL.op rfl (opW.assignV (v := .int .u64 (l[k].n : Int)) rfl ?_)
      refine WL.nil ?_
      refine thenQ_n (hK7 _ _ ?_)
      refine WC.seq (fun K8 hK8 => ?_)
      refine WC.region ?_
      refine WL.op rfl (opW.moveI rfl ?_)
      refine WL.op rfl (opW.moveI rfl ?_)
      refine WL.op rfl (opW.callX (add64 (sumsH (l.take k)) l[k].n _) rfl ?_)
      refine WL.op rfl (opW.moveV (v := .tuple #[.int .u64 ((((sumsH (l.take k)) + l[k].n) % 18446744073709551616 : Nat) : Int), .int .u64 ((((sumsH (l.take k)) + l[k].n) / 18446744073709551616 : Nat) : Int)]) rfl ?_)
      refine WL.op rfl (opW.extract rfl rfl ?_)
      refine WL.op rfl (opW.extract rfl rfl ?_)
      refine WL.op rfl (opW.assignI rfl ?_)
      refine WL.op rfl (opW.assignI rfl ?_)
      refine WL.nil ?_
      refine thenQ_n (hK8 _ _ ?_)
      refine WC.seq (fun K9 hK9 => ?_)
      refine WC.seq (fun K10 hK10 => ?_)
      refine WC.region ?_
      refine WL.op rfl (opW.moveI rfl ?_)
      refine WL.op rfl (opW.gtr rfl rfl ?_)
      refine WL.nil ?_
      refine thenQ_n (hK10 _ _ ?_)
      refine WC.cond _ rfl (fun hc1 => ?_) (fun hc1 => ?_)
      ·
        have hr1 := hc1
        try simp only [decide_eq_true_eq, decide_eq_false_iff_not, Bool.and_eq_true, Bool.or_eq_true, Bool.and_eq_false_iff, Bool.or_eq_false_iff, Bool.not_eq_true', Bool.not_eq_false', Int.not_lt, Int.not_le] at hc1
        refine WC.seq (fun K11 hK11 => ?_)
        refine WC.region ?_
        refine WL.op rfl (opW.assignI rfl ?_)
        refine WL.nil ?_
        refine thenQ_n (hK11 _ _ ?_)
        refine WC.ret ?_
        refine thenQ_r ?_
        refine blockQ_r ?_
        refine thenQ_r ?_
        refine thenQ_r ?_
        refine blockQ_r ?_
        refine thenQ_r ?_
        refine bodyQ_ret (.tmpI rfl .nil) ?_
        exact ⟨congrArg (fun n : Nat => Value.int .u64 (n : Int)) (sumsH_over hkl (by omega)).symm, hS.old⟩
      ·
        have hr1 := hc1
        try simp only [decide_eq_true_eq, decide_eq_false_iff_not, Bool.and_eq_true, Bool.or_eq_true, Bool.and_eq_false_iff, Bool.or_eq_false_iff, Bool.not_eq_true', Bool.not_eq_false', Int.not_lt, Int.not_le] at hc1
        have hmod : sumH (sumsH (l.take k)) l[k].n = ((sumsH (l.take k)) + l[k].n) % 18446744073709551616 := by unfold sumH; rw [if_pos (by omega), Nat.mod_eq_of_lt (by omega)]
        refine WC.skip ?_
        refine thenQ_n (hK9 _ _ ?_)
        refine WC.region ?_
        refine WL.op rfl (opW.moveI rfl ?_)
        refine WL.op rfl (opW.assignI rfl ?_)
        refine WL.nil ?_
        refine blockQ_n ?_
        refine thenQ_n (hK6 _ _ ?_)
        refine WC.region ?_
        refine WL.op rfl (opW.add rfl rfl (wrap_i64 (by omega)) ?_)
        refine WL.op rfl (opW.moveI rfl ?_)
        refine WL.nil ?_
        refine thenQ_n ?_
        exact ⟨l.length - (k + 1), by omega, k + 1, ⟨congrArg (Value.int .u64) (by rw [hst]; exact congrArg _ hmod.symm), rfl, rfl, congrArg (Value.int .i64) (by omega), trivial⟩, hS, by omega, rfl⟩
    ·
      have hr0 := hc0
      try simp only [decide_eq_true_eq, decide_eq_false_iff_not, Bool.and_eq_true, Bool.or_eq_true, Bool.and_eq_false_iff, Bool.or_eq_false_iff, Bool.not_eq_true', Bool.not_eq_false', Int.not_lt, Int.not_le] at hc0
      have hkk : k = l.length := by omega
      subst hkk
      rw [List.take_length]
      refine WC.exit ?_
      refine thenQ_e ?_
      refine thenQ_e ?_
      refine blockQ_hit ?_
      refine thenQ_n (hK2 _ _ ?_)
      refine WC.seq (fun K12 hK12 => ?_)
      refine WC.region ?_
      refine WL.op rfl (opW.moveI rfl ?_)
      refine WL.op rfl (opW.assignI rfl ?_)
      refine WL.nil ?_
      refine thenQ_n (hK12 _ _ ?_)
      refine WC.ret ?_
      refine bodyQ_ret (.tmpI rfl .nil) ?_
      exact ⟨rfl, hS.old⟩

theorem would_ok (w0 : World) (p : Nat) (d : TrD) (cost : Nat) (keys : List Key) (space : Nat) (v : Value) (ha : TrAt w0 p d) (hok : TrOk d) (hk : SlR w0 v keys) : Ret Try.prog 12 #[.pointer (some ⟨p, 0, none⟩), .int .u64 (cost : Int), v, .int .u64 (space : Int)] w0 (fun u w' => u = .int .i64 (wouldC d cost keys space) ∧ Bel w0 w') := by
  refine Ret.enter (args := [.pointer (some ⟨p, 0, none⟩), .int .u64 (cost : Int), v, .int .u64 (space : Int)]) Try.func12 rfl Try.ntmps12 Try.results12 rfl ?_
  have hS := St.start w0
  refine WC.seq (fun K1 hK1 => ?_)
  refine WC.region ?_
  refine WL.op rfl (opW.assignI rfl ?_)
  refine WL.nil ?_
  refine thenQ_n (hK1 _ _ ?_)
  refine WC.seq (fun K2 hK2 => ?_)
  refine WC.seq (fun K3 hK3 => ?_)
  refine WC.region ?_
  refine WL.op rfl (opW.moveV (v := .pointer (some ⟨p, 0, none⟩)) rfl ?_)
  refine WL.op rfl (opW.eqlP rfl rfl ?_)
  refine WL.op rfl (opW.moveB rfl ?_)
  refine WL.gT 13 rfl rfl rfl (WL.op rfl (opW.moveV (v := .pointer (some ⟨p, 0, none⟩)) rfl ?_))
  refine WL.gT 13 rfl rfl rfl (WL.op rfl (opW.nilCheckB rfl ?_))
  refine WL.gT 13 rfl rfl rfl (WL.op rfl (opW.fieldAddrB rfl ?_))
  refine WL.gT 13 rfl rfl rfl (WL.op rfl (opW.loadV rfl ((ha.1.bel hS.old).at1 (TrS.at_of _)) ?_))
  refine WL.gT 13 rfl rfl rfl (WL.op rfl (opW.eqlM rfl rfl ?_))
  refine WL.op rfl (opW.pickT rfl rfl ?_)
  refine WL.nil ?_
  refine thenQ_n (hK3 _ _ ?_)
  refine WC.cond _ rfl (fun hc0 => ?_) (fun hc0 => ?_)
  ·
    have hr0 := hc0
    try simp only [decide_eq_true_eq, decide_eq_false_iff_not, Bool.and_eq_true, Bool.or_eq_true, Bool.and_eq_false_iff, Bool.or_eq_false_iff, Bool.not_eq_true', Bool.not_eq_false', Int.not_lt, Int.not_le] at hc0
    simp at hr0
  ·
    have hr0 := hc0
    try simp only [decide_eq_true_eq, decide_eq_false_iff_not, Bool.and_eq_true, Bool.or_eq_true, Bool.and_eq_false_iff, Bool.or_eq_false_iff, Bool.not_eq_true', Bool.not_eq_false', Int.not_lt, Int.not_le] at hc0
    refine WC.skip ?_
    refine thenQ_n (hK2 _ _ ?_)
    refine WC.seq (fun K4 hK4 => ?_)
    refine WC.seq (fun K5 hK5 => ?_)
    refine WC.draw 13 (.look 0 (.look 1 (.look 2 (.look 3 (.look 4 (.look 7 (.look 8 (.look 9 (.look 10 (.look 11 (.one 5 (.one 6 (.look 12 .nil))))))))))))) (by kernel_rfl) (fun _ _ _ h => h) (fun w1 hw1 => ?_)
    replace hS := hS.bel hw1
    have hS1 := hS
    have hT := St.start w1
    refine ML.look rfl rfl rfl (fun w hw => (by have hS := hS1.bel hw; exact opW.moveV (v := .pointer (some ⟨p, 0, none⟩)) rfl ⟨rfl, rfl⟩)) ?_
    refine ML.look rfl rfl rfl (fun w hw => (by have hS := hS1.bel hw; exact opW.nilCheckB rfl ⟨rfl, rfl⟩)) ?_
    refine ML.look rfl rfl rfl (fun w hw => (by have hS := hS1.bel hw; exact opW.fieldAddrB rfl ⟨rfl, rfl⟩)) ?_
    refine ML.look rfl rfl rfl (fun w hw => (by have hS := hS1.bel hw; exact opW.loadV rfl ((ha.1.bel hS.old).at1 (TrS.at_block _)) ⟨rfl, rfl⟩)) ?_
    refine ML.look rfl rfl rfl (fun w hw => (by have hS := hS1.bel hw; exact opW.moveI rfl ⟨rfl, rfl⟩)) ?_
    refine ML.look rfl rfl rfl (fun w hw => (by have hS := hS1.bel hw; exact opW.moveV (v := .pointer (some ⟨p, 0, none⟩)) rfl ⟨rfl, rfl⟩)) ?_
    refine ML.look rfl rfl rfl (fun w hw => (by have hS := hS1.bel hw; exact opW.nilCheckB rfl ⟨rfl, rfl⟩)) ?_
    refine ML.look rfl rfl rfl (fun w hw => (by have hS := hS1.bel hw; exact opW.fieldAddrB rfl ⟨rfl, rfl⟩)) ?_
    refine ML.look rfl rfl rfl (fun w hw => (by have hS := hS1.bel hw; exact opW.fieldAddrB rfl ⟨rfl, rfl⟩)) ?_
    refine ML.look rfl rfl rfl (fun w hw => (by have hS := hS1.bel hw; exact opW.loadV rfl ((ha.1.bel hS.old).at1 (TrS.at_limits_block _)) ⟨rfl, rfl⟩)) ?_
    refine ML.one rfl rfl rfl (opW.buildSl hT (([⟨d.block⟩, ⟨cost⟩] : List U64)) [.int .u64 (d.block : Int), .int .u64 (cost : Int)] rfl rfl rfl rfl (by decide) ?_)
    intro b25 w hw hT
    refine ⟨hT.old, ?_⟩
    have hS := hS1.merge hT
    try simp only [List.cons_append, List.nil_append] at hS
    refine ML.one rfl rfl rfl (opW.call (sum_ok _ _ ([⟨d.block⟩, ⟨cost⟩] : List U64) (hS.sl (by first | exact .here | exact .there (.here) | exact .there (.there (.here)) | exact .there (.there (.there (.here))) | exact .there (.there (.there (.there (.here)))) | exact .there (.there (.there (.there (.there (.here))))) | exact .there (.there (.there (.there (.there (.there (.here)))))) | exact .there (.there (.there (.there (.there (.there (.there (.here))))))) | exact .there (.there (.there (.there (.there (.there (.there (.there (.here)))))))) | exact .there (.there (.there (.there (.there (.there (.there (.there (.there (.here))))))))) | exact .there (.there (.there (.there (.there (.there (.there (.there (.there (.there (.here)))))))))) | exact .there (.there (.there (.there (.there (.there (.there (.there (.there (.there (.there (.here))))))))))) | exact .there (.there (.there (.there (.there (.there (.there (.there (.there (.there (.there (.there (.here))))))))))))))) rfl ?_)
    rintro _ w ⟨rfl, hw⟩; replace hT := hT.bel hw
    rw [sumsH_two _ _ hok.1]
    refine ⟨hT.old, ?_⟩
    have hS := hS1.merge hT
    try simp only [List.cons_append, List.nil_append] at hS
    refine ML.look rfl rfl rfl (fun w hw => (by have hS := hS1.bel hw; exact opW.gtr rfl rfl ⟨rfl, rfl⟩)) ?_
    refine ML.nil ?_
    refine thenQ_n (hK5 _ _ ?_)
    refine WC.cond _ rfl (fun hc1 => ?_) (fun hc1 => ?_)
    ·
      have hr1 := hc1
      try simp only [decide_eq_true_eq, decide_eq_false_iff_not, Bool.and_eq_true, Bool.or_eq_true, Bool.and_eq_false_iff, Bool.or_eq_false_iff, Bool.not_eq_true', Bool.not_eq_false', Int.not_lt, Int.not_le] at hc1
      refine WC.seq (fun K6 hK6 => ?_)
      refine WC.region ?_
      refine WL.op rfl (opW.assignI rfl ?_)
      refine WL.nil ?_
      refine thenQ_n (hK6 _ _ ?_)
      refine WC.ret ?_
      refine thenQ_r ?_
      refine bodyQ_ret (.tmpI rfl .nil) ?_
      have h1 : d.lim.block < sumH d.block cost := by omega
      exact ⟨congrArg (Value.int .i64) (if_pos h1).symm, hS.old⟩
    ·
      have hr1 := hc1
      try simp only [decide_eq_true_eq, decide_eq_false_iff_not, Bool.and_eq_true, Bool.or_eq_true, Bool.and_eq_false_iff, Bool.or_eq_false_iff, Bool.not_eq_true', Bool.not_eq_false', Int.not_lt, Int.not_le] at hc1
      have h1 : ¬ d.lim.block < sumH d.block cost := by omega
      refine WC.skip ?_
      refine thenQ_n (hK4 _ _ ?_)
      refine WC.seq (fun K7 hK7 => ?_)
      refine WC.seq (fun K8 hK8 => ?_)
      refine WC.region ?_
      refine WL.op rfl (opW.moveV (v := v) rfl ?_)
      refine WL.op rfl (opW.lenV rfl ((hk.bel hS.old)) ?_)
      refine WL.op rfl (opW.moveI rfl ?_)
      refine WL.nil ?_
      refine thenQ_n (hK8 _ _ ?_)
      refine WC.block ?_
      refine WC.loop (fun q f w => ∃ k : Nat, Fits [(0, .pointer (some ⟨p, 0, none⟩)), (1, .int .u64 (cost : Int)), (3, .int .u64 (space : Int)), (33, v), (34, .int .i64 (keys.length : Int)), (35, .int .i64 (k : Int))] f ∧ St w0 [] w ∧ (∀ j (hj : j < keys.length), j < k → ¬ d.lim.account < sumH (d.ofK keys[j]) cost) ∧ k ≤ keys.length ∧ q = keys.length - k) (keys.length) ?_ ?_
      ·
        exact ⟨0, ⟨rfl, rfl, rfl, rfl, rfl, rfl, trivial⟩, hS.sub (by repeat (first | with_reducible exact List.nil_sublist _ | with_reducible exact List.Sublist.refl _ | with_reducible refine List.Sublist.cons₂ _ ?_ | with_reducible refine List.Sublist.cons _ ?_)), fun j _ h => by omega, Nat.zero_le _, rfl⟩
      ·
        rintro q f w ⟨k, hfit, hS, hno, hk0, hm⟩
        refine WC.fits _ hfit (fun g => ?_)
        clear hfit
        refine WC.seq (fun K9 hK9 => ?_)
        refine WC.region ?_
        refine WL.op rfl (opW.lss rfl rfl ?_)
        refine WL.nil ?_
        refine thenQ_n (hK9 _ _ ?_)
        refine WC.seq (fun K10 hK10 => ?_)
        refine WC.cond _ rfl (fun hc2 => ?_) (fun hc2 => ?_)
        ·
          have hr2 := hc2
          try simp only [decide_eq_true_eq, decide_eq_false_iff_not, Bool.and_eq_true, Bool.or_eq_true, Bool.and_eq_false_iff, Bool.or_eq_false_iff, Bool.not_eq_true', Bool.not_eq_false', Int.not_lt, Int.not_le] at hc2
          have hkl : k < keys.length := by omega
          have hle := hk.le
          simp only [maxLen] at hle
          refine WC.skip ?_
          refine thenQ_n (hK10 _ _ ?_)
          refine WC.seq (fun K11 hK11 => ?_)
          refine WC.block ?_
          refine WC.seq (fun K12 hK12 => ?_)
          refine WC.region ?_
          refine WL.op rfl (opW.idxV rfl ((hk.bel hS.old)) rfl (by omega) ?_)
          refine WL.op rfl (opW.loadV rfl (((hk.bel hS.old).isPt hkl).ldA (Enc.size_eq keys[k])) ?_)
          refine WL.op rfl (opW.allocA hS ?_)
          intro b10 w _ hS
          refine WL.op0 (opW.storeE hS rfl rfl (by first | exact .here | exact .there (.here) | exact .there (.there (.here)) | exact .there (.there (.there (.here))) | exact .there (.there (.there (.there (.here)))) | exact .there (.there (.there (.there (.there (.here))))) | exact .there (.there (.there (.there (.there (.there (.here)))))) | exact .there (.there (.there (.there (.there (.there (.there (.here))))))) | exact .there (.there (.there (.there (.there (.there (.there (.there (.here)))))))) | exact .there (.there (.there (.there (.there (.there (.there (.there (.there (.here))))))))) | exact .there (.there (.there (.there (.there (.there (.there (.there (.there (.there (.here)))))))))) | exact .there (.there (.there (.there (.there (.there (.there (.there (.there (.there (.there (.here))))))))))) | exact .there (.there (.there (.there (.there (.there (.there (.there (.there (.there (.there (.there (.here))))))))))))) (by first | rfl | exact Enc.size_eq _) ?_)
          intro w hS; replace hS := hS _ (by first | exact .here | exact .there (.here) | exact .there (.there (.here)) | exact .there (.there (.there (.here))) | exact .there (.there (.there (.there (.here)))) | exact .there (.there (.there (.there (.there (.here))))) | exact .there (.there (.there (.there (.there (.there (.here)))))) | exact .there (.there (.there (.there (.there (.there (.there (.here))))))) | exact .there (.there (.there (.there (.there (.there (.there (.there (.here)))))))) | exact .there (.there (.there (.there (.there (.there (.there (.there (.there (.here))))))))) | exact .there (.there (.there (.there (.there (.there (.there (.there (.there (.there (.here)))))))))) | exact .there (.there (.there (.there (.there (.there (.there (.there (.there (.there (.there (.here))))))))))) | exact .there (.there (.there (.there (.there (.there (.there (.there (.there (.there (.there (.there (.here)))))))))))))
          refine WL.nil ?_
          refine thenQ_n (hK12 _ _ ?_)
          refine WC.seq (fun K13 hK13 => ?_)
          refine WC.draw 15 (.look 0 (.look 1 (.look 2 (.look 3 (.look 4 (.look 5 (.look 6 (.look 9 (.look 10 (.look 11 (.look 12 (.look 13 (.one 7 (.one 8 (.look 14 .nil))))))))))))))) (by kernel_rfl) (fun _ _ _ h => h) (fun w1 hw1 => ?_)
          replace hS := hS.bel hw1
          have hS1 := hS
          have hT := St.start w1
          refine ML.look rfl rfl rfl (fun w hw => (by have hS := hS1.bel hw; exact opW.moveV (v := .pointer (some ⟨p, 0, none⟩)) rfl ⟨rfl, rfl⟩)) ?_
          refine ML.look rfl rfl rfl (fun w hw => (by have hS := hS1.bel hw; exact opW.nilCheckB rfl ⟨rfl, rfl⟩)) ?_
          refine ML.look rfl rfl rfl (fun w hw => (by have hS := hS1.bel hw; exact opW.fieldAddrB rfl ⟨rfl, rfl⟩)) ?_
          refine ML.look rfl rfl rfl (fun w hw => (by have hS := hS1.bel hw; exact opW.loadV rfl ((ha.1.bel hS.old).at1 (TrS.at_of _)) ⟨rfl, rfl⟩)) ?_
          refine ML.look rfl rfl rfl (fun w hw => (by have hS := hS1.bel hw; exact opW.loadV rfl (hS.ldA (cs := Enc.enc keys[k]) (by first | exact .here | exact .there (.here) | exact .there (.there (.here)) | exact .there (.there (.there (.here))) | exact .there (.there (.there (.there (.here)))) | exact .there (.there (.there (.there (.there (.here))))) | exact .there (.there (.there (.there (.there (.there (.here)))))) | exact .there (.there (.there (.there (.there (.there (.there (.here))))))) | exact .there (.there (.there (.there (.there (.there (.there (.there (.here)))))))) | exact .there (.there (.there (.there (.there (.there (.there (.there (.there (.here))))))))) | exact .there (.there (.there (.there (.there (.there (.there (.there (.there (.there (.here)))))))))) | exact .there (.there (.there (.there (.there (.there (.there (.there (.there (.there (.there (.here))))))))))) | exact .there (.there (.there (.there (.there (.there (.there (.there (.there (.there (.there (.there (.here))))))))))))) (Enc.size_eq _)) ⟨rfl, rfl⟩)) ?_
          refine ML.look rfl rfl rfl (fun w hw => (by have hS := hS1.bel hw; exact opW.lookupZ (κ := Key) (k := keys[k]) (vv := nv) (z0 := 0) (u := d.ofK keys[k]) inferInstance (ha.2.bel hS.old) rfl rfl rfl ⟨rfl, rfl⟩)) ?_
          refine ML.look rfl rfl rfl (fun w hw => (by have hS := hS1.bel hw; exact opW.moveI rfl ⟨rfl, rfl⟩)) ?_
          refine ML.look rfl rfl rfl (fun w hw => (by have hS := hS1.bel hw; exact opW.moveV (v := .pointer (some ⟨p, 0, none⟩)) rfl ⟨rfl, rfl⟩)) ?_
          refine ML.look rfl rfl rfl (fun w hw => (by have hS := hS1.bel hw; exact opW.nilCheckB rfl ⟨rfl, rfl⟩)) ?_
          refine ML.look rfl rfl rfl (fun w hw => (by have hS := hS1.bel hw; exact opW.fieldAddrB rfl ⟨rfl, rfl⟩)) ?_
          refine ML.look rfl rfl rfl (fun w hw => (by have hS := hS1.bel hw; exact opW.fieldAddrB rfl ⟨rfl, rfl⟩)) ?_
          refine ML.look rfl rfl rfl (fun w hw => (by have hS := hS1.bel hw; exact opW.loadV rfl ((ha.1.bel hS.old).at1 (TrS.at_limits_account _)) ⟨rfl, rfl⟩)) ?_
          refine ML.one rfl rfl rfl (opW.buildSl hT (([⟨d.ofK keys[k]⟩, ⟨cost⟩] : List U64)) [.int .u64 (d.ofK keys[k] : Int), .int .u64 (cost : Int)] rfl rfl rfl rfl (by decide) ?_)
          intro b46 w hw hT
          refine ⟨hT.old, ?_⟩
          have hS := hS1.merge hT
          try simp only [List.cons_append, List.nil_append] at hS
          refine ML.one rfl rfl rfl (opW.call (sum_ok _ _ ([⟨d.ofK keys[k]⟩, ⟨cost⟩] : List U64) (hS.sl (by first | exact .here | exact .there (.here) | exact .there (.there (.here)) | exact .there (.there (.there (.here))) | exact .there (.there (.there (.there (.here)))) | exact .there (.there (.there (.there (.there (.here))))) | exact .there (.there (.there (.there (.there (.there (.here)))))) | exact .there (.there (.there (.there (.there (.there (.there (.here))))))) | exact .there (.there (.there (.there (.there (.there (.there (.there (.here)))))))) | exact .there (.there (.there (.there (.there (.there (.there (.there (.there (.here))))))))) | exact .there (.there (.there (.there (.there (.there (.there (.there (.there (.there (.here)))))))))) | exact .there (.there (.there (.there (.there (.there (.there (.there (.there (.there (.there (.here))))))))))) | exact .there (.there (.there (.there (.there (.there (.there (.there (.there (.there (.there (.there (.here))))))))))))))) rfl ?_)
          rintro _ w ⟨rfl, hw⟩; replace hT := hT.bel hw
          rw [sumsH_two _ _ (hok.2.2 _)]
          refine ⟨hT.old, ?_⟩
          have hS := hS1.merge hT
          try simp only [List.cons_append, List.nil_append] at hS
          refine ML.look rfl rfl rfl (fun w hw => (by have hS := hS1.bel hw; exact opW.gtr rfl rfl ⟨rfl, rfl⟩)) ?_
          refine ML.nil ?_
          refine thenQ_n (hK13 _ _ ?_)
          refine WC.cond _ rfl (fun hc3 => ?_) (fun hc3 => ?_)
          ·
            have hr3 := hc3
            try simp only [decide_eq_true_eq, decide_eq_false_iff_not, Bool.and_eq_true, Bool.or_eq_true, Bool.and_eq_false_iff, Bool.or_eq_false_iff, Bool.not_eq_true', Bool.not_eq_false', Int.not_lt, Int.not_le] at hc3
            refine WC.seq (fun K14 hK14 => ?_)
            refine WC.region ?_
            refine WL.op rfl (opW.assignI rfl ?_)
            refine WL.nil ?_
            refine thenQ_n (hK14 _ _ ?_)
            refine WC.ret ?_
            refine blockQ_r ?_
            refine thenQ_r ?_
            refine thenQ_r ?_
            refine blockQ_r ?_
            refine thenQ_r ?_
            refine bodyQ_ret (.tmpI rfl .nil) ?_
            have h2 : keys.any (fun k => decide (d.lim.account < sumH (d.ofK k) cost)) = true := List.any_eq_true.2 ⟨keys[k], List.getElem_mem hkl, decide_eq_true (by omega)⟩
            exact ⟨congrArg (Value.int .i64) (by unfold wouldC; rw [if_neg h1, if_pos h2]), hS.old⟩
          ·
            have hr3 := hc3
            try simp only [decide_eq_true_eq, decide_eq_false_iff_not, Bool.and_eq_true, Bool.or_eq_true, Bool.and_eq_false_iff, Bool.or_eq_false_iff, Bool.not_eq_true', Bool.not_eq_false', Int.not_lt, Int.not_le] at hc3
            refine WC.skip ?_
            refine blockQ_n ?_
            refine thenQ_n (hK11 _ _ ?_)
            refine WC.region ?_
            refine WL.op rfl (opW.add rfl rfl (wrap_i64 (by omega)) ?_)
            refine WL.op rfl (opW.moveI rfl ?_)
            refine WL.nil ?_
            refine thenQ_n ?_
            refine ⟨keys.length - (k + 1), by omega, k + 1, ⟨rfl, rfl, rfl, rfl, rfl, congrArg (Value.int .i64) (by omega), trivial⟩, hS.sub (by repeat (first | with_reducible exact List.nil_sublist _ | with_reducible exact List.Sublist.refl _ | with_reducible refine List.Sublist.cons₂ _ ?_ | with_reducible refine List.Sublist.cons _ ?_)), fun j hj hjk => ?_, by omega, rfl⟩
            rcases Nat.lt_or_ge j k with h | h
            · exact hno j hj h
            · obtain rfl : j = k := by omega
              omega
        ·
          have hr2 := hc2
          try simp only [decide_eq_true_eq, decide_eq_false_iff_not, Bool.and_eq_true, Bool.or_eq_true, Bool.and_eq_false_iff, Bool.or_eq_false_iff, Bool.not_eq_true', Bool.not_eq_false', Int.not_lt, Int.not_le] at hc2
          have hkk : k = keys.length := by omega
          have h2 : ¬ keys.any (fun k => decide (d.lim.account < sumH (d.ofK k) cost)) = true := by
            intro hc
            obtain ⟨x, hx, hx2⟩ := List.any_eq_true.1 hc
            obtain ⟨j, hj, rfl⟩ := List.getElem_of_mem hx
            exact hno j hj (by omega) (of_decide_eq_true hx2)
          refine WC.exit ?_
          refine thenQ_e ?_
          refine thenQ_e ?_
          refine blockQ_hit ?_
          refine thenQ_n (hK7 _ _ ?_)
          refine WC.seq (fun K15 hK15 => ?_)
          refine WC.seq (fun K16 hK16 => ?_)
          refine WC.draw 13 (.look 0 (.look 1 (.look 2 (.look 3 (.look 4 (.look 7 (.look 8 (.look 9 (.look 10 (.look 11 (.one 5 (.one 6 (.look 12 .nil))))))))))))) (by kernel_rfl) (fun _ _ _ h => h) (fun w1 hw1 => ?_)
          replace hS := hS.bel hw1
          have hS1 := hS
          have hT := St.start w1
          refine ML.look rfl rfl rfl (fun w hw => (by have hS := hS1.bel hw; exact opW.moveV (v := .pointer (some ⟨p, 0, none⟩)) rfl ⟨rfl, rfl⟩)) ?_
          refine ML.look rfl rfl rfl (fun w hw => (by have hS := hS1.bel hw; exact opW.nilCheckB rfl ⟨rfl, rfl⟩)) ?_
          refine ML.look rfl rfl rfl (fun w hw => (by have hS := hS1.bel hw; exact opW.fieldAddrB rfl ⟨rfl, rfl⟩)) ?_
          refine ML.look rfl rfl rfl (fun w hw => (by have hS := hS1.bel hw; exact opW.loadV rfl ((ha.1.bel hS.old).at1 (TrS.at_space _)) ⟨rfl, rfl⟩)) ?_
          refine ML.look rfl rfl rfl (fun w hw => (by have hS := hS1.bel hw; exact opW.moveI rfl ⟨rfl, rfl⟩)) ?_
          refine ML.look rfl rfl rfl (fun w hw => (by have hS := hS1.bel hw; exact opW.moveV (v := .pointer (some ⟨p, 0, none⟩)) rfl ⟨rfl, rfl⟩)) ?_
          refine ML.look rfl rfl rfl (fun w hw => (by have hS := hS1.bel hw; exact opW.nilCheckB rfl ⟨rfl, rfl⟩)) ?_
          refine ML.look rfl rfl rfl (fun w hw => (by have hS := hS1.bel hw; exact opW.fieldAddrB rfl ⟨rfl, rfl⟩)) ?_
          refine ML.look rfl rfl rfl (fun w hw => (by have hS := hS1.bel hw; exact opW.fieldAddrB rfl ⟨rfl, rfl⟩)) ?_
          refine ML.look rfl rfl rfl (fun w hw => (by have hS := hS1.bel hw; exact opW.loadV rfl ((ha.1.bel hS.old).at1 (TrS.at_limits_space _)) ⟨rfl, rfl⟩)) ?_
          refine ML.one rfl rfl rfl (opW.buildSl hT (([⟨d.space⟩, ⟨space⟩] : List U64)) [.int .u64 (d.space : Int), .int .u64 (space : Int)] rfl rfl rfl rfl (by decide) ?_)
          intro b60 w hw hT
          refine ⟨hT.old, ?_⟩
          have hS := hS1.merge hT
          try simp only [List.cons_append, List.nil_append] at hS
          refine ML.one rfl rfl rfl (opW.call (sum_ok _ _ ([⟨d.space⟩, ⟨space⟩] : List U64) (hS.sl (by first | exact .here | exact .there (.here) | exact .there (.there (.here)) | exact .there (.there (.there (.here))) | exact .there (.there (.there (.there (.here)))) | exact .there (.there (.there (.there (.there (.here))))) | exact .there (.there (.there (.there (.there (.there (.here)))))) | exact .there (.there (.there (.there (.there (.there (.there (.here))))))) | exact .there (.there (.there (.there (.there (.there (.there (.there (.here)))))))) | exact .there (.there (.there (.there (.there (.there (.there (.there (.there (.here))))))))) | exact .there (.there (.there (.there (.there (.there (.there (.there (.there (.there (.here)))))))))) | exact .there (.there (.there (.there (.there (.there (.there (.there (.there (.there (.there (.here))))))))))) | exact .there (.there (.there (.there (.there (.there (.there (.there (.there (.there (.there (.there (.here))))))))))))))) rfl ?_)
          rintro _ w ⟨rfl, hw⟩; replace hT := hT.bel hw
          rw [sumsH_two _ _ hok.2.1]
          refine ⟨hT.old, ?_⟩
          have hS := hS1.merge hT
          try simp only [List.cons_append, List.nil_append] at hS
          refine ML.look rfl rfl rfl (fun w hw => (by have hS := hS1.bel hw; exact opW.gtr rfl rfl ⟨rfl, rfl⟩)) ?_
          refine ML.nil ?_
          refine thenQ_n (hK16 _ _ ?_)
          refine WC.cond _ rfl (fun hc4 => ?_) (fun hc4 => ?_)
          ·
            have hr4 := hc4
            try simp only [decide_eq_true_eq, decide_eq_false_iff_not, Bool.and_eq_true, Bool.or_eq_true, Bool.and_eq_false_iff, Bool.or_eq_false_iff, Bool.not_eq_true', Bool.not_eq_false', Int.not_lt, Int.not_le] at hc4
            refine WC.seq (fun K17 hK17 => ?_)
            refine WC.region ?_
            refine WL.op rfl (opW.assignI rfl ?_)
            refine WL.nil ?_
            refine thenQ_n (hK17 _ _ ?_)
            refine WC.ret ?_
            refine thenQ_r ?_
            refine bodyQ_ret (.tmpI rfl .nil) ?_
            have h3 : d.lim.space < sumH d.space space := by omega
            exact ⟨congrArg (Value.int .i64) (by unfold wouldC; rw [if_neg h1, if_neg h2, if_pos h3]), hS.old⟩
          ·
            have hr4 := hc4
            try simp only [decide_eq_true_eq, decide_eq_false_iff_not, Bool.and_eq_true, Bool.or_eq_true, Bool.and_eq_false_iff, Bool.or_eq_false_iff, Bool.not_eq_true', Bool.not_eq_false', Int.not_lt, Int.not_le] at hc4
            refine WC.skip ?_
            refine thenQ_n (hK15 _ _ ?_)
            refine WC.seq (fun K18 hK18 => ?_)
            refine WC.region ?_
            refine WL.op rfl (opW.assignI rfl ?_)
            refine WL.nil ?_
            refine thenQ_n (hK18 _ _ ?_)
            refine WC.ret ?_
            refine bodyQ_ret (.tmpI rfl .nil) ?_
            have h3 : ¬ d.lim.space < sumH d.space space := by omega
            exact ⟨congrArg (Value.int .i64) (by unfold wouldC; rw [if_neg h1, if_neg h2, if_neg h3]), hS.old⟩

theorem block_ok (w0 : World) (p : Nat) (d : TrD) (ha : TrAt w0 p d) : Ret Try.prog 16 #[.pointer (some ⟨p, 0, none⟩)] w0 (fun u w' => u = .int .u64 (d.block : Int) ∧ Bel w0 w') := by
  refine Ret.enter (args := [.pointer (some ⟨p, 0, none⟩)]) Try.func16 rfl Try.ntmps16 Try.results16 rfl ?_
  have hS := St.start w0
  refine WC.seq (fun K1 hK1 => ?_)
  refine WC.region ?_
  refine WL.op rfl (opW.assignI rfl ?_)
  refine WL.nil ?_
  refine thenQ_n (hK1 _ _ ?_)
  refine WC.seq (fun K2 hK2 => ?_)
  refine WC.seq (fun K3 hK3 => ?_)
  refine WC.region ?_
  refine WL.op rfl (opW.moveV (v := .pointer (some ⟨p, 0, none⟩)) rfl ?_)
  refine WL.op rfl (opW.eqlP rfl rfl ?_)
  refine WL.nil ?_
  refine thenQ_n (hK3 _ _ ?_)
  refine WC.cond _ rfl (fun hc0 => ?_) (fun hc0 => ?_)
  ·
    have hr0 := hc0
    try simp only [decide_eq_true_eq, decide_eq_false_iff_not, Bool.and_eq_true, Bool.or_eq_true, Bool.and_eq_false_iff, Bool.or_eq_false_iff, Bool.not_eq_true', Bool.not_eq_false', Int.not_lt, Int.not_le] at hc0
    simp at hr0
  ·
    have hr0 := hc0
    try simp only [decide_eq_true_eq, decide_eq_false_iff_not, Bool.and_eq_true, Bool.or_eq_true, Bool.and_eq_false_iff, Bool.or_eq_false_iff, Bool.not_eq_true', Bool.not_eq_false', Int.not_lt, Int.not_le] at hc0
    refine WC.skip ?_
    refine thenQ_n (hK2 _ _ ?_)
    refine WC.seq (fun K4 hK4 => ?_)
    refine WC.region ?_
    refine WL.op rfl (opW.moveV (v := .pointer (some ⟨p, 0, none⟩)) rfl ?_)
    refine WL.op rfl (opW.nilCheckB rfl ?_)
    refine WL.op rfl (opW.fieldAddrB rfl ?_)
    refine WL.op rfl (opW.loadV rfl ((ha.1.bel hS.old).at1 (TrS.at_block _)) ?_)
    refine WL.op rfl (opW.assignI rfl ?_)
    refine WL.nil ?_
    refine thenQ_n (hK4 _ _ ?_)
    refine WC.ret ?_
    refine bodyQ_ret (.tmpI rfl .nil) ?_
    exact ⟨rfl, hS.old⟩

theorem space_ok (w0 : World) (p : Nat) (d : TrD) (ha : TrAt w0 p d) : Ret Try.prog 18 #[.pointer (some ⟨p, 0, none⟩)] w0 (fun u w' => u = .int .u64 (d.space : Int) ∧ Bel w0 w') := by
  refine Ret.enter (args := [.pointer (some ⟨p, 0, none⟩)]) Try.func18 rfl Try.ntmps18 Try.results18 rfl ?_
  have hS := St.start w0
  refine WC.seq (fun K1 hK1 => ?_)
  refine WC.region ?_
  refine WL.op rfl (opW.assignI rfl ?_)
  refine WL.nil ?_
  refine thenQ_n (hK1 _ _ ?_)
  refine WC.seq (fun K2 hK2 => ?_)
  refine WC.seq (fun K3 hK3 => ?_)
  refine WC.region ?_
  refine WL.op rfl (opW.moveV (v := .pointer (some ⟨p, 0, none⟩)) rfl ?_)
  refine WL.op rfl (opW.eqlP rfl rfl ?_)
  refine WL.nil ?_
  refine thenQ_n (hK3 _ _ ?_)
  refine WC.cond _ rfl (fun hc0 => ?_) (fun hc0 => ?_)
  ·
    have hr0 := hc0
    try simp only [decide_eq_true_eq, decide_eq_false_iff_not, Bool.and_eq_true, Bool.or_eq_true, Bool.and_eq_false_iff, Bool.or_eq_false_iff, Bool.not_eq_true', Bool.not_eq_false', Int.not_lt, Int.not_le] at hc0
    simp at hr0
  ·
    have hr0 := hc0
    try simp only [decide_eq_true_eq, decide_eq_false_iff_not, Bool.and_eq_true, Bool.or_eq_true, Bool.and_eq_false_iff, Bool.or_eq_false_iff, Bool.not_eq_true', Bool.not_eq_false', Int.not_lt, Int.not_le] at hc0
    refine WC.skip ?_
    refine thenQ_n (hK2 _ _ ?_)
    refine WC.seq (fun K4 hK4 => ?_)
    refine WC.region ?_
    refine WL.op rfl (opW.moveV (v := .pointer (some ⟨p, 0, none⟩)) rfl ?_)
    refine WL.op rfl (opW.nilCheckB rfl ?_)
    refine WL.op rfl (opW.fieldAddrB rfl ?_)
    refine WL.op rfl (opW.loadV rfl ((ha.1.bel hS.old).at1 (TrS.at_space _)) ?_)
    refine WL.op rfl (opW.assignI rfl ?_)
    refine WL.nil ?_
    refine thenQ_n (hK4 _ _ ?_)
    refine WC.ret ?_
    refine bodyQ_ret (.tmpI rfl .nil) ?_
    exact ⟨rfl, hS.old⟩

theorem ofk_ok (w0 : World) (p : Nat) (d : TrD) (k : Key) (ha : TrAt w0 p d) : Ret Try.prog 20 #[.pointer (some ⟨p, 0, none⟩), .agg (Enc.enc k)] w0 (fun u w' => u = .int .u64 (d.ofK k : Int) ∧ Bel w0 w') := by
  refine Ret.enter (args := [.pointer (some ⟨p, 0, none⟩), .agg (Enc.enc k)]) Try.func20 rfl Try.ntmps20 Try.results20 rfl ?_
  have hS := St.start w0
  refine WC.seq (fun K1 hK1 => ?_)
  refine WC.region ?_
  refine WL.op rfl (opW.boxA hS rfl ?_)
  intro b3 w _ hS
  refine WL.op rfl (opW.assignI rfl ?_)
  refine WL.nil ?_
  refine thenQ_n (hK1 _ _ ?_)
  refine WC.seq (fun K2 hK2 => ?_)
  refine WC.seq (fun K3 hK3 => ?_)
  refine WC.region ?_
  refine WL.op rfl (opW.moveV (v := .pointer (some ⟨p, 0, none⟩)) rfl ?_)
  refine WL.op rfl (opW.eqlP rfl rfl ?_)
  refine WL.nil ?_
  refine thenQ_n (hK3 _ _ ?_)
  refine WC.cond _ rfl (fun hc0 => ?_) (fun hc0 => ?_)
  ·
    have hr0 := hc0
    try simp only [decide_eq_true_eq, decide_eq_false_iff_not, Bool.and_eq_true, Bool.or_eq_true, Bool.and_eq_false_iff, Bool.or_eq_false_iff, Bool.not_eq_true', Bool.not_eq_false', Int.not_lt, Int.not_le] at hc0
    simp at hr0
  ·
    have hr0 := hc0
    try simp only [decide_eq_true_eq, decide_eq_false_iff_not, Bool.and_eq_true, Bool.or_eq_true, Bool.and_eq_false_iff, Bool.or_eq_false_iff, Bool.not_eq_true', Bool.not_eq_false', Int.not_lt, Int.not_le] at hc0
    refine WC.skip ?_
    refine thenQ_n (hK2 _ _ ?_)
    refine WC.seq (fun K4 hK4 => ?_)
    refine WC.draw 7 (.look 0 (.look 1 (.look 2 (.look 3 (.look 4 (.look 5 (.look 6 .nil))))))) (by kernel_rfl) (fun _ _ _ h => h) (fun w1 hw1 => ?_)
    replace hS := hS.bel hw1
    have hS1 := hS
    have hT := St.start w1
    refine ML.look rfl rfl rfl (fun w hw => (by have hS := hS1.bel hw; exact opW.moveV (v := .pointer (some ⟨p, 0, none⟩)) rfl ⟨rfl, rfl⟩)) ?_
    refine ML.look rfl rfl rfl (fun w hw => (by have hS := hS1.bel hw; exact opW.nilCheckB rfl ⟨rfl, rfl⟩)) ?_
    refine ML.look rfl rfl rfl (fun w hw => (by have hS := hS1.bel hw; exact opW.fieldAddrB rfl ⟨rfl, rfl⟩)) ?_
    refine ML.look rfl rfl rfl (fun w hw => (by have hS := hS1.bel hw; exact opW.loadV rfl ((ha.1.bel hS.old).at1 (TrS.at_of _)) ⟨rfl, rfl⟩)) ?_
    refine ML.look rfl rfl rfl (fun w hw => (by have hS := hS1.bel hw; exact opW.loadV rfl (hS.ldA (cs := Enc.enc k) (by first | exact .here | exact .there (.here) | exact .there (.there (.here)) | exact .there (.there (.there (.here))) | exact .there (.there (.there (.there (.here)))) | exact .there (.there (.there (.there (.there (.here))))) | exact .there (.there (.there (.there (.there (.there (.here)))))) | exact .there (.there (.there (.there (.there (.there (.there (.here))))))) | exact .there (.there (.there (.there (.there (.there (.there (.there (.here)))))))) | exact .there (.there (.there (.there (.there (.there (.there (.there (.there (.here))))))))) | exact .there (.there (.there (.there (.there (.there (.there (.there (.there (.there (.here)))))))))) | exact .there (.there (.there (.there (.there (.there (.there (.there (.there (.there (.there (.here))))))))))) | exact .there (.there (.there (.there (.there (.there (.there (.there (.there (.there (.there (.there (.here))))))))))))) (Enc.size_eq _)) ⟨rfl, rfl⟩)) ?_
    refine ML.look rfl rfl rfl (fun w hw => (by have hS := hS1.bel hw; exact opW.lookupZ (κ := Key) (k := k) (vv := nv) (z0 := 0) (u := d.ofK k) inferInstance (ha.2.bel hS.old) rfl rfl rfl ⟨rfl, rfl⟩)) ?_
    refine ML.look rfl rfl rfl (fun w hw => (by have hS := hS1.bel hw; exact opW.assignI rfl ⟨rfl, rfl⟩)) ?_
    refine ML.nil ?_
    refine thenQ_n (hK4 _ _ ?_)
    refine WC.ret ?_
    refine bodyQ_ret (.tmpI rfl .nil) ?_
    exact ⟨rfl, hS.old⟩

theorem new_ok (w0 : World) (l : Limits) : Ret Try.prog 10 #[.agg (Enc.enc l)] w0 (fun u w' => ∃ p d, u = .pointer (some ⟨p, 0, none⟩) ∧ d.lim = l ∧ d.block = 0 ∧ d.space = 0 ∧ (∀ k, d.ofK k = 0) ∧ NewE w0 w' (trE p d) ∧ Bel w0 w') := by
  refine Ret.enter (args := [.agg (Enc.enc l)]) Try.func10 rfl Try.ntmps10 Try.results10 rfl ?_
  have hS := St.start w0
  refine WC.seq (fun K1 hK1 => ?_)
  refine WC.region ?_
  refine WL.op rfl (opW.boxA hS rfl ?_)
  intro b1 w _ hS
  refine WL.op rfl (opW.assignV rfl ?_)
  refine WL.nil ?_
  refine thenQ_n (hK1 _ _ ?_)
  refine WC.seq (fun K2 hK2 => ?_)
  refine WC.region ?_
  refine WL.op rfl (opW.loadV rfl (hS.ldA (cs := Enc.enc l) (by first | exact .here | exact .there (.here) | exact .there (.there (.here)) | exact .there (.there (.there (.here))) | exact .there (.there (.there (.there (.here)))) | exact .there (.there (.there (.there (.there (.here))))) | exact .there (.there (.there (.there (.there (.there (.here)))))) | exact .there (.there (.there (.there (.there (.there (.there (.here))))))) | exact .there (.there (.there (.there (.there (.there (.there (.there (.here)))))))) | exact .there (.there (.there (.there (.there (.there (.there (.there (.there (.here))))))))) | exact .there (.there (.there (.there (.there (.there (.there (.there (.there (.there (.here)))))))))) | exact .there (.there (.there (.there (.there (.there (.there (.there (.there (.there (.there (.here))))))))))) | exact .there (.there (.there (.there (.there (.there (.there (.there (.there (.there (.there (.there (.here))))))))))))) (Enc.size_eq _)) ?_)
  refine WL.op rfl (opW.makeMap Key nv hS ?_)
  intro r1 w _ hS
  refine WL.op rfl (opW.buildE (r := ((TrS.mk l 0 0 (some r1)) : TrS)) (ps := TrS.parts ((TrS.mk l 0 0 (some r1)) : TrS)) (TrS.enc_eq _) (by first | rfl | (simp only [enc_vset, enc_vz, Limits.enc_eq, Limits.parts, Asked.enc_eq, Asked.parts, TrS.enc_eq, TrS.parts, Added.enc_eq, Added.parts, RfS.enc_eq, RfS.parts]; rfl)) (by (repeat' (first | exact trivial | refine And.intro ?_ ?_)) <;> first | rfl | exact Enc.size_eq _ | (simp; done)) ?_)
  refine WL.op rfl (opW.boxA hS rfl ?_)
  intro b6 w _ hS
  refine WL.op rfl (opW.assignV (v := .pointer (some ⟨b6, 0, none⟩)) rfl ?_)
  refine WL.nil ?_
  refine thenQ_n (hK2 _ _ ?_)
  refine WC.ret ?_
  refine bodyQ_ret (.tmpV (v := .pointer (some ⟨b6, 0, none⟩)) rfl .nil) ?_
  refine ⟨b6, ⟨l, 0, 0, r1, []⟩, rfl, rfl, rfl, rfl, fun k => rfl, ?_, hS.old⟩
  replace hS := hS.sub (S' := [blkE b6 (Enc.enc (TrS.mk l 0 0 (some r1))) 44, mapE r1 nv ([] : List (Key × Nat))]) (by repeat (first | with_reducible exact List.nil_sublist _ | with_reducible exact List.Sublist.refl _ | with_reducible refine List.Sublist.cons₂ _ ?_ | with_reducible refine List.Sublist.cons _ ?_))
  exact (hS.trClose (S := []) ⟨l, 0, 0, r1, []⟩).takeE .here

end Go.Fer
